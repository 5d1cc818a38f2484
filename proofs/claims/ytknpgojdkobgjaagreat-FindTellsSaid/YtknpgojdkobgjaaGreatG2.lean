/- A part of the proof. -/
import Derived.Test.YtknpgojdkobgjaaGreatG1
set_option linter.unusedVariables false
set_option maxRecDepth 4000
set_option linter.unusedSimpArgs false
namespace Go.Proofs.YtknpgojdkobgjaaGreat.W
open Go Go.Wb
theorem e314 : Ent Tryz.prog 314 := Ent.mk Tryz.func314 rfl rfl
theorem e315 : Ent Tryz.prog 315 := Ent.mk Tryz.func315 rfl rfl
theorem e224 : Ent Tryz.prog 224 := Ent.mk Tryz.func224 rfl rfl
theorem e227 : Ent Tryz.prog 227 := Ent.mk Tryz.func227 rfl rfl
theorem e228 : Ent Tryz.prog 228 := Ent.mk Tryz.func228 rfl rfl
def F_r29_Which (e1 : Env) (n2 : Int) : Option Int :=
  (bif (decide (n2 < 1)) then some 0 else (omod e1.Turn n2).bind fun q4 => (bif (decide (q4 < 0)) then some (IntKind.i64.wrap (q4 + n2)) else some q4))
theorem c_r29_Which (e1 : Env) (n2 : Int) (r : Int) (h : F_r29_Which e1 n2 = some r) : PCon Tryz.prog 314 [rd kEnv e1, rd (kint .i64) n2] (rd (kint .i64) r) := by
  refine PCon.of (Con.intro0 Tryz.func314 rfl Tryz.ntmps314 rfl fun w H => ?_)
  unfold F_r29_Which at h
  refine SR <| Ct rfl (op_box 3 rfl rfl (vt rfl)) ?_
  rintro _ ⟨g3, rfl⟩
  refine Ak rfl <| Nl <| AW.seq <| SR <| Md rfl <| Ac (op_lss rfl rfl (vt rfl) (vk rfl)) rfl <| Nl <| Cn rfl (fun hc => ?_) (fun hc => ?_)
  · have h := cond_t hc h
    refine SR <| Ak rfl <| Nl <| AW.ret ?_
    obtain rfl := si h
    exact ret1 Tryz.results314 rfl (out_tmp rfl)
  · have h := cond_f hc h
    refine AW.skip <| AW.seq ?_
    obtain ⟨q4, hq4, h⟩ := bsome h
    refine Rg <| FdA lEnv_0 fl39_0 rfl <| Ld ty3 3 rfl <| Md rfl <| Ac (op_rem rfl rfl (vt rfl) (vt rfl) hq4) rfl <| As rfl <| Nl <| AW.seq <| SR <| Md rfl <| Ac (op_lss rfl rfl (vt rfl) (vk rfl)) rfl <| Nl <| Cn rfl (fun hc => ?_) (fun hc => ?_)
    · have h := cond_t hc h
      refine Rg <| Md rfl <| Md rfl <| Ac (op_add rfl rfl (vt rfl) (vt rfl)) rfl <| As rfl <| Nl <| SR <| Md rfl <| As rfl <| Nl <| AW.ret ?_
      obtain rfl := si h
      exact ret1 Tryz.results314 rfl (out_tmp rfl)
    · have h := cond_f hc h
      refine AW.skip <| SR <| Md rfl <| As rfl <| Nl <| AW.ret ?_
      obtain rfl := si h
      exact ret1 Tryz.results314 rfl (out_tmp rfl)
def F_r29_Up_l1 (e1 : Env) (port2 : Int) : Nat → Int → Option Bool
  | 0, _ => none
  | m6 + 1, i5 => (bif (decide (i5 < (e1.Down.length : Int))) then (lget e1.Down i5).bind fun e7 => (bif (decide (e7 = port2)) then some false else (F_r29_Up_l1 e1 port2 m6) (IntKind.i64.wrap (i5 + 1))) else some true)
def F_r29_Up (e1 : Env) (port2 : Int) : Option Bool :=
  F_r29_Up_l1 e1 port2 ((((e1.Down.length : Int) : Int) - 0).toNat + 1) 0
theorem c_r29_Up (e1 : Env) (port2 : Int) (r : Bool) (h : F_r29_Up e1 port2 = some r) : PCon Tryz.prog 315 [rd kEnv e1, rd (kint .i64) port2] (rd kbool r) := by
  refine PCon.of (Con.intro0 Tryz.func315 rfl Tryz.ntmps315 rfl fun w H => ?_)
  unfold F_r29_Up at h
  refine SR <| Ct rfl (op_box 3 rfl rfl (vt rfl)) ?_
  rintro _ ⟨g3, rfl⟩
  refine Ab rfl <| Nl <| AW.seq <| SR <| Ak rfl <| Nl <| AW.block <| AW.loopG (d := []) (ν := Nat × Int) (fun n => True ∧ F_r29_Up_l1 e1 port2 n.1 n.2 = some r) (fun n => n.1) (fun n => [(1, rd (kint .i64) port2), (2, ptrL g3 (Lens.id kEnv)), (5, rd (kint .i64) n.2)]) (fun n => [(3, Blk g3 39 kEnv e1)]) (((((e1.Down.length : Int) : Int) - 0).toNat + 1), 0) ⟨trivial, h⟩ ⟨rfl, ⟨rfl, rfl, rfl, trivial⟩, ⟨rfl, trivial⟩⟩ ?_
  rintro ⟨m6, i5⟩ ⟨hsf1, h⟩
  change True at hsf1
  change F_r29_Up_l1 e1 port2 m6 i5 = some r at h
  change AW _ _ _ ⟨slots [(1, rd (kint .i64) port2), (2, ptrL g3 (Lens.id kEnv)), (5, rd (kint .i64) i5)], ress [(3, Blk g3 39 kEnv e1)], _⟩
  cases m6 with
  | zero => cases h
  | succ m6 =>
    unfold F_r29_Up_l1 at h
    generalize hgo1 : F_r29_Up_l1 e1 port2 m6 = go1 at h
    refine AW.seq <| SR <| Md rfl <| FdA lEnv_1 fl39_1 rfl <| Ld ty37 3 rfl <| Ac (op_len' rfl rfl sl37 (vt rfl)) rfl <| Ac (op_lss rfl rfl (vt rfl) (vt rfl)) rfl <| Nl <| Cn rfl (fun hc => ?_) (fun hc => ?_)
    · have h := cond_t hc h
      refine AW.skip <| AW.seq <| AW.block <| AW.seq ?_
      obtain ⟨e7, he7, h⟩ := bsome h
      refine Rg <| FdA lEnv_1 fl39_1 rfl <| Ld ty37 3 rfl <| Md rfl <| Ac (op_indexs' rfl rfl sl37 (vt rfl) (vt rfl) he7) rfl <| Lp1 ty3 rfl <| Md rfl <| Ac (op_eql rfl rfl (vt rfl) (vt rfl)) rfl <| Nl <| Cn rfl (fun hc => ?_) (fun hc => ?_)
      · have h := cond_t hc h
        refine SR <| Ab rfl <| Nl <| AW.ret ?_
        obtain rfl := si h
        exact ret1 Tryz.results315 rfl (out_tmp rfl)
      · have h := cond_f hc h
        refine AW.skip <| Rg <| Md rfl <| Ac (op_add rfl rfl (vt rfl) (vk rfl)) rfl <| As rfl <| Nl ?_
        subst hgo1
        exact ⟨(m6, (IntKind.i64.wrap (i5 + 1))), Nat.lt_succ_self _, ⟨trivial, h⟩, ⟨rfl, ⟨rfl, rfl, rfl, trivial⟩, ⟨rfl, trivial⟩⟩⟩
    · have h := cond_f hc h
      refine AW.exit <| SR <| Ab rfl <| Nl <| AW.ret ?_
      obtain rfl := si h
      exact ret1 Tryz.results315 rfl (out_tmp rfl)
def F_r29_Takes_l1 (g2 : Group) (e1 : Env) : Nat → (List Int) → Int → Option (List Int)
  | 0, _, _ => none
  | m12 + 1, l9, i11 => (bif (decide (i11 < (g2.Buckets.length : Int))) then (bif (decide (g2.Kind = 0)) then (appd l9 [i11]).bind fun l13 => (F_r29_Takes_l1 g2 e1 m12) l13 (IntKind.i64.wrap (i11 + 1)) else (bif (decide (g2.Kind = 1)) then (F_r29_Which e1 (g2.Buckets.length : Int)).bind fun x15 => (bif (decide (i11 = x15)) then (appd l9 [i11]).bind fun l16 => (F_r29_Takes_l1 g2 e1 m12) l16 (IntKind.i64.wrap (i11 + 1)) else (F_r29_Takes_l1 g2 e1 m12) l9 (IntKind.i64.wrap (i11 + 1))) else (bif (decide (g2.Kind = 2)) then (bif (decide (i11 = 0)) then (appd l9 [i11]).bind fun l18 => (F_r29_Takes_l1 g2 e1 m12) l18 (IntKind.i64.wrap (i11 + 1)) else (F_r29_Takes_l1 g2 e1 m12) l9 (IntKind.i64.wrap (i11 + 1))) else (bif (decide (g2.Kind = 3)) then (opt (decide ((l9.length : Int) = 0)) (lget g2.Buckets i11)).bind fun e20 => (opt (decide ((l9.length : Int) = 0)) (F_r29_Up e1 e20.Watch)).bind fun x21 => (bif ((decide ((l9.length : Int) = 0)) && x21) then (appd l9 [i11]).bind fun l22 => (F_r29_Takes_l1 g2 e1 m12) l22 (IntKind.i64.wrap (i11 + 1)) else (F_r29_Takes_l1 g2 e1 m12) l9 (IntKind.i64.wrap (i11 + 1))) else (F_r29_Takes_l1 g2 e1 m12) l9 (IntKind.i64.wrap (i11 + 1)))))) else some l9)
def F_r29_Takes (e1 : Env) (g2 : Group) : Option (List Int) :=
  F_r29_Takes_l1 g2 e1 ((((g2.Buckets.length : Int) : Int) - 0).toNat + 1) [] 0
theorem c_r29_Takes (e1 : Env) (g2 : Group) (r : (List Int)) (h : F_r29_Takes e1 g2 = some r) : PCon Tryz.prog 277 [rd kEnv e1, rd kGroup g2] (rd (ksl (kint .i64)) r) := by
  refine PCon.of (Con.intro0 Tryz.func277 rfl Tryz.ntmps277 rfl fun w H => ?_)
  unfold F_r29_Takes at h
  refine SR <| Ct rfl (op_box 3 rfl rfl (vt rfl)) ?_
  rintro _ ⟨g3, rfl⟩
  refine Ct rfl (op_box 4 rfl rfl (vt rfl)) ?_
  rintro _ ⟨g4, rfl⟩
  refine Ac (op_assign (A := rd (ksl (kint .i64)) []) rfl rfl vnil) rfl <| Nl <| SR <| Ct rfl (op_buildSlice 1001 (ps := []) (l := []) rfl rfl sl37 zr3 rfl rfl rfl rfl) ?_
  rintro _ ⟨v5, rfl⟩
  refine Aw rfl <| Nl <| AW.seq <| SR <| Ak rfl <| Nl <| AW.block <| AW.loopG (d := []) (ν := Nat × (List Int) × Int × Value) (fun n => True ∧ F_r29_Takes_l1 g2 e1 n.1 n.2.1 n.2.2.1 = some r) (fun n => n.1) (fun n => [(2, ptrL g3 (Lens.id kEnv)), (3, ptrL g4 (Lens.id kGroup)), (5, raw n.2.2.2), (6, rd (kint .i64) n.2.2.1)]) (fun n => [(3, Blk g3 39 kEnv e1), (4, Blk g4 164 kGroup g2), (1001, Row n.2.2.2 3 (kint .i64) n.2.1)]) (((((g2.Buckets.length : Int) : Int) - 0).toNat + 1), [], 0, v5) ⟨trivial, h⟩ ⟨rfl, ⟨rfl, rfl, rfl, rfl, trivial⟩, ⟨rfl, rfl, rfl, trivial⟩⟩ ?_
  rintro ⟨m12, l9, i11, v10⟩ ⟨hsf1, h⟩
  change True at hsf1
  change F_r29_Takes_l1 g2 e1 m12 l9 i11 = some r at h
  change AW _ _ _ ⟨slots [(2, ptrL g3 (Lens.id kEnv)), (3, ptrL g4 (Lens.id kGroup)), (5, raw v10), (6, rd (kint .i64) i11)], ress [(3, Blk g3 39 kEnv e1), (4, Blk g4 164 kGroup g2), (1001, Row v10 3 (kint .i64) l9)], _⟩
  cases m12 with
  | zero => cases h
  | succ m12 =>
    unfold F_r29_Takes_l1 at h
    generalize hgo1 : F_r29_Takes_l1 g2 e1 m12 = go1 at h
    refine AW.seq <| SR <| Md rfl <| FdA lGroup_2 fl164_2 rfl <| Ld ty162 4 rfl <| Ac (op_len' rfl rfl sl162 (vt rfl)) rfl <| Ac (op_lss rfl rfl (vt rfl) (vt rfl)) rfl <| Nl <| Cn rfl (fun hc => ?_) (fun hc => ?_)
    · have h := cond_t hc h
      refine AW.skip <| AW.seq <| AW.block <| SR <| FdA lGroup_1 fl164_1 rfl <| Ld ty3 4 rfl <| Nl <| AW.block <| SR <| Ac (op_eql rfl rfl (vt rfl) (vk rfl)) rfl <| As rfl <| Nl <| Cn rfl (fun hc => ?_) (fun hc => ?_)
      · have h := cond_t hc h
        obtain ⟨l13, hl13, h⟩ := bsome h
        refine Rg <| Mw rfl <| Md rfl <| Ac (op_buildSliceR (ps := [(0, .tmp 20)]) (l := [i11]) rfl rfl sl37 zr3 rfl rfl ⟨_, _, Lens.idx 1 (kint .i64) 0 (by decide), _, rfl, (vt rfl), rfl⟩ rfl) rfl <| Ct rfl (op_append' 1001 hl13 rfl rfl el37 (vt rfl) rfl (vt rfl)) ?_
        rintro _ ⟨v14, rfl⟩
        refine Aw rfl <| Nl <| Rg <| Md rfl <| Ac (op_add rfl rfl (vt rfl) (vk rfl)) rfl <| As rfl <| Nl ?_
        subst hgo1
        exact ⟨(m12, l13, (IntKind.i64.wrap (i11 + 1)), v14), Nat.lt_succ_self _, ⟨trivial, h⟩, ⟨rfl, ⟨rfl, rfl, rfl, rfl, trivial⟩, ⟨rfl, rfl, rfl, trivial⟩⟩⟩
      · have h := cond_f hc h
        refine SR <| Ac (op_eql rfl rfl (vt rfl) (vk rfl)) rfl <| As rfl <| Nl <| Cn rfl (fun hc => ?_) (fun hc => ?_)
        · have h := cond_t hc h
          refine AW.seq ?_
          obtain ⟨x15, hx15, h⟩ := bsome h
          refine Rg <| Md rfl <| Ld ty39 3 rfl <| FdA lGroup_2 fl164_2 rfl <| Ld ty162 4 rfl <| Ac (op_len' rfl rfl sl162 (vt rfl)) rfl <| Cl [26, 29] (c_r29_Which _ _ _ hx15) e314 rfl <| Ac (op_eql rfl rfl (vt rfl) (vt rfl)) rfl <| Nl <| Cn rfl (fun hc => ?_) (fun hc => ?_)
          · have h := cond_t hc h
            obtain ⟨l16, hl16, h⟩ := bsome h
            refine Rg <| Mw rfl <| Md rfl <| Ac (op_buildSliceR (ps := [(0, .tmp 33)]) (l := [i11]) rfl rfl sl37 zr3 rfl rfl ⟨_, _, Lens.idx 1 (kint .i64) 0 (by decide), _, rfl, (vt rfl), rfl⟩ rfl) rfl <| Ct rfl (op_append' 1001 hl16 rfl rfl el37 (vt rfl) rfl (vt rfl)) ?_
            rintro _ ⟨v17, rfl⟩
            refine Aw rfl <| Nl <| Rg <| Md rfl <| Ac (op_add rfl rfl (vt rfl) (vk rfl)) rfl <| As rfl <| Nl ?_
            subst hgo1
            exact ⟨(m12, l16, (IntKind.i64.wrap (i11 + 1)), v17), Nat.lt_succ_self _, ⟨trivial, h⟩, ⟨rfl, ⟨rfl, rfl, rfl, rfl, trivial⟩, ⟨rfl, rfl, rfl, trivial⟩⟩⟩
          · have h := cond_f hc h
            refine AW.skip <| Rg <| Md rfl <| Ac (op_add rfl rfl (vt rfl) (vk rfl)) rfl <| As rfl <| Nl ?_
            subst hgo1
            exact ⟨(m12, l9, (IntKind.i64.wrap (i11 + 1)), v10), Nat.lt_succ_self _, ⟨trivial, h⟩, ⟨rfl, ⟨rfl, rfl, rfl, rfl, trivial⟩, ⟨rfl, rfl, rfl, trivial⟩⟩⟩
        · have h := cond_f hc h
          refine SR <| Ac (op_eql rfl rfl (vt rfl) (vk rfl)) rfl <| As rfl <| Nl <| Cn rfl (fun hc => ?_) (fun hc => ?_)
          · have h := cond_t hc h
            refine SR <| Md rfl <| Ac (op_eql rfl rfl (vt rfl) (vk rfl)) rfl <| Nl <| Cn rfl (fun hc => ?_) (fun hc => ?_)
            · have h := cond_t hc h
              obtain ⟨l18, hl18, h⟩ := bsome h
              refine Rg <| Mw rfl <| Md rfl <| Ac (op_buildSliceR (ps := [(0, .tmp 41)]) (l := [i11]) rfl rfl sl37 zr3 rfl rfl ⟨_, _, Lens.idx 1 (kint .i64) 0 (by decide), _, rfl, (vt rfl), rfl⟩ rfl) rfl <| Ct rfl (op_append' 1001 hl18 rfl rfl el37 (vt rfl) rfl (vt rfl)) ?_
              rintro _ ⟨v19, rfl⟩
              refine Aw rfl <| Nl <| Rg <| Md rfl <| Ac (op_add rfl rfl (vt rfl) (vk rfl)) rfl <| As rfl <| Nl ?_
              subst hgo1
              exact ⟨(m12, l18, (IntKind.i64.wrap (i11 + 1)), v19), Nat.lt_succ_self _, ⟨trivial, h⟩, ⟨rfl, ⟨rfl, rfl, rfl, rfl, trivial⟩, ⟨rfl, rfl, rfl, trivial⟩⟩⟩
            · have h := cond_f hc h
              refine AW.skip <| Rg <| Md rfl <| Ac (op_add rfl rfl (vt rfl) (vk rfl)) rfl <| As rfl <| Nl ?_
              subst hgo1
              exact ⟨(m12, l9, (IntKind.i64.wrap (i11 + 1)), v10), Nat.lt_succ_self _, ⟨trivial, h⟩, ⟨rfl, ⟨rfl, rfl, rfl, rfl, trivial⟩, ⟨rfl, rfl, rfl, trivial⟩⟩⟩
          · have h := cond_f hc h
            refine SR <| Ac (op_eql rfl rfl (vt rfl) (vk rfl)) rfl <| As rfl <| Nl <| Cn rfl (fun hc => ?_) (fun hc => ?_)
            · have h := cond_t hc h
              refine AW.seq ?_
              obtain ⟨e20, he20, h⟩ := bsome h
              obtain ⟨x21, hx21, h⟩ := bsome h
              refine AW.regionAny [⟨[5], [46], [], []⟩, ⟨[46], [47], [1001], []⟩, ⟨[47], [48], [], []⟩, ⟨[48], [49], [], []⟩, ⟨[2, 49], [50], [3], []⟩, ⟨[3, 49], [51], [], []⟩, ⟨[51, 49], [52], [4], []⟩, ⟨[6, 49], [53], [], []⟩, ⟨[52, 53, 49], [54], [], []⟩, ⟨[54, 49], [55], [], []⟩, ⟨[55, 49], [56], [], []⟩, ⟨[50, 56, 49], [57], [], []⟩, ⟨[57, 49], [58], [], []⟩] mixed (by kernel_rfl) <| SMw rfl <| Sc (lo [46] [1001] rfl fun S hs hr => op_leno 1001 rfl rfl sl37 (vh hs 46 rfl rfl) ((hr 1001 rfl).trans rfl)) rfl <| Sc (lo [47] [] rfl fun S hs hr => op_eql rfl rfl (vh hs 47 rfl rfl) (vk rfl)) rfl <| SMd rfl <| Sc (lg [2, 49] [3] rfl fun hq S hs hr => op_load rfl rfl ty39 (vh hs 2 rfl rfl) (i := 3) ((hr 3 rfl).trans rfl)) rfl <| Sc (lg [3, 49] [] rfl fun hq S hs hr => op_field lGroup_2 rfl rfl fl164_2 (vh hs 3 rfl rfl)) rfl <| Sc (lg [51, 49] [4] rfl fun hq S hs hr => op_load rfl rfl ty162 (vgt ((hs 51 rfl).trans rfl) hq) (i := 4) ((hr 4 rfl).trans rfl)) rfl <| Sc (lg [6, 49] [] rfl fun hq S hs hr => op_move (A := rd (kint .i64) i11) rfl rfl (vh hs 6 rfl rfl)) rfl <| Sc (lg [52, 53, 49] [] rfl fun hq S hs hr => op_indexs' rfl rfl sl162 (vgt ((hs 52 rfl).trans rfl) hq) (vgt ((hs 53 rfl).trans rfl) hq) (opt_t he20 hq)) rfl <| Sc (lg [54, 49] [] rfl fun hq S hs hr => op_fieldp lBucket_1 rfl rfl fl226_1 (vgt ((hs 54 rfl).trans rfl) hq)) rfl <| Sc (lg [55, 49] [] rfl fun hq S hs hr => op_loadp rfl rfl ty3 (vgt ((hs 55 rfl).trans rfl) hq)) rfl <| Sc (lg [50, 56, 49] [] rfl fun hq S hs hr => op_call (xs := [.tmp 50, .tmp 56]) (c_r29_Up _ _ _ (opt_t hx21 hq)) e315 rfl rfl ⟨vgt ((hs 50 rfl).trans rfl) hq, vgt ((hs 56 rfl).trans rfl) hq, trivial⟩) rfl <| Sc (lo [57, 49] [] rfl fun S hs hr => op_all rfl rfl (vh hs 49 rfl rfl) (vh hs 57 rfl rfl)) rfl <| Cn rfl (fun hc => ?_) (fun hc => ?_)
              · have h := cond_t hc h
                obtain ⟨l22, hl22, h⟩ := bsome h
                refine Rg <| Mw rfl <| Md rfl <| Ac (op_buildSliceR (ps := [(0, .tmp 60)]) (l := [i11]) rfl rfl sl37 zr3 rfl rfl ⟨_, _, Lens.idx 1 (kint .i64) 0 (by decide), _, rfl, (vt rfl), rfl⟩ rfl) rfl <| Ct rfl (op_append' 1001 hl22 rfl rfl el37 (vt rfl) rfl (vt rfl)) ?_
                rintro _ ⟨v23, rfl⟩
                refine Aw rfl <| Nl <| Rg <| Md rfl <| Ac (op_add rfl rfl (vt rfl) (vk rfl)) rfl <| As rfl <| Nl ?_
                subst hgo1
                exact ⟨(m12, l22, (IntKind.i64.wrap (i11 + 1)), v23), Nat.lt_succ_self _, ⟨trivial, h⟩, ⟨rfl, ⟨rfl, rfl, rfl, rfl, trivial⟩, ⟨rfl, rfl, rfl, trivial⟩⟩⟩
              · have h := cond_f hc h
                refine AW.skip <| Rg <| Md rfl <| Ac (op_add rfl rfl (vt rfl) (vk rfl)) rfl <| As rfl <| Nl ?_
                subst hgo1
                exact ⟨(m12, l9, (IntKind.i64.wrap (i11 + 1)), v10), Nat.lt_succ_self _, ⟨trivial, h⟩, ⟨rfl, ⟨rfl, rfl, rfl, rfl, trivial⟩, ⟨rfl, rfl, rfl, trivial⟩⟩⟩
            · have h := cond_f hc h
              refine AW.skip <| Rg <| Md rfl <| Ac (op_add rfl rfl (vt rfl) (vk rfl)) rfl <| As rfl <| Nl ?_
              subst hgo1
              exact ⟨(m12, l9, (IntKind.i64.wrap (i11 + 1)), v10), Nat.lt_succ_self _, ⟨trivial, h⟩, ⟨rfl, ⟨rfl, rfl, rfl, rfl, trivial⟩, ⟨rfl, rfl, rfl, trivial⟩⟩⟩
    · have h := cond_f hc h
      refine AW.exit <| SR <| Mw rfl <| Aw rfl <| Nl <| AW.freezes [4, 5, 63] 1001 rfl ⟨rfl, rfl, rfl, trivial⟩ rfl <| AW.ret ?_
      obtain rfl := si h
      exact ret1 Tryz.results277 rfl (out_tmp rfl)
def F_r28_like (a1 : Action) (b2 : Action) : Option Bool :=
  some ((decide (a1.Kind = b2.Kind)) && ((decide (a1.Kind ≠ 25)) || (decide (a1.Oxm.Field = b2.Oxm.Field))))
theorem c_r28_like (a1 : Action) (b2 : Action) (r : Bool) (h : F_r28_like a1 b2 = some r) : PCon Tryz.prog 224 [rd kAction a1, rd kAction b2] (rd kbool r) := by
  refine PCon.of (Con.intro0 Tryz.func224 rfl Tryz.ntmps224 rfl fun w H => ?_)
  unfold F_r28_like at h
  refine SR <| Ct rfl (op_box 3 rfl rfl (vt rfl)) ?_
  rintro _ ⟨g3, rfl⟩
  refine Ct rfl (op_box 4 rfl rfl (vt rfl)) ?_
  rintro _ ⟨g4, rfl⟩
  refine Ab rfl <| Nl <| SR <| FdA lAction_0 fl121_0 rfl <| Ld ty3 3 rfl <| FdA lAction_0 fl121_0 rfl <| Ld ty3 4 rfl <| Ac (op_eql rfl rfl (vt rfl) (vt rfl)) rfl <| Md rfl <| Gd rfl (fun hq => op_field lAction_0 rfl rfl fl121_0 (vt rfl)) <| Gd rfl (fun hq => op_load rfl rfl ty3 (vgt rfl hq) (i := 3) rfl) <| Gd rfl (fun hq => op_neq rfl rfl (vgt rfl hq) (vk rfl)) <| AOps.consG (OpG.guardX rfl rfl rfl rfl rfl fun hq => op_move (A := rd kbool (decide (a1.Kind ≠ 25))) rfl rfl (vgt rfl hq)) <| AOps.consG (OpG.guardN rfl rfl rfl rfl rfl fun hq => op_field lAction_5 rfl rfl fl121_5 (vt rfl)) <| AOps.consG (OpG.guardN rfl rfl rfl rfl rfl fun hq => op_field lOxm_0 rfl rfl fl119_0 (vgt rfl hq)) <| AOps.consG (OpG.guardN rfl rfl rfl rfl rfl fun hq => op_load rfl rfl ty3 (vgt rfl hq) (i := 3) rfl) <| AOps.consG (OpG.guardN rfl rfl rfl rfl rfl fun hq => op_field lAction_5 rfl rfl fl121_5 (vt rfl)) <| AOps.consG (OpG.guardN rfl rfl rfl rfl rfl fun hq => op_field lOxm_0 rfl rfl fl119_0 (vgt rfl hq)) <| AOps.consG (OpG.guardN rfl rfl rfl rfl rfl fun hq => op_load rfl rfl ty3 (vgt rfl hq) (i := 4) rfl) <| AOps.consG (OpG.guardN rfl rfl rfl rfl rfl fun hq => op_eql rfl rfl (vgt rfl hq) (vgt rfl hq)) <| Gd rfl (fun hq => op_any rfl rfl (vgx rfl hq) (vgw rfl hq)) <| Ac (op_all rfl rfl (vt rfl) (vt rfl)) rfl <| As rfl <| Nl <| AW.ret ?_
  obtain rfl := si h
  exact ret1 Tryz.results224 rfl (out_tmp rfl)
def F_r28_Write_l2 (l9 : (List Action)) (l2 : (List Action)) (i11 : Int) (go1 : (List Action) → Int → Option (List Action)) : Nat → Int → Int → Option (List Action)
  | 0, _, _ => none
  | m17 + 1, at15, j16 => (bif (decide (j16 < (l9.length : Int))) then (opt (decide (at15 < 0)) (lget l9 j16)).bind fun e18 => (opt (decide (at15 < 0)) (lget l2 i11)).bind fun e19 => (opt (decide (at15 < 0)) (F_r28_like e18 e19)).bind fun x20 => (bif ((decide (at15 < 0)) && x20) then (F_r28_Write_l2 l9 l2 i11 go1 m17) j16 (IntKind.i64.wrap (j16 + 1)) else (F_r28_Write_l2 l9 l2 i11 go1 m17) at15 (IntKind.i64.wrap (j16 + 1))) else (bif (decide (at15 < 0)) then (lget l2 i11).bind fun e21 => (appd l9 [e21]).bind fun l22 => go1 l22 (IntKind.i64.wrap (i11 + 1)) else (lget l2 i11).bind fun e24 => (lget l9 at15).bind fun e25 => go1 (List.set l9 at15.toNat e24) (IntKind.i64.wrap (i11 + 1))))
def F_r28_Write_l1 (l2 : (List Action)) : Nat → (List Action) → Int → Option (List Action)
  | 0, _, _ => none
  | m12 + 1, l9, i11 => (bif (decide (i11 < (l2.length : Int))) then F_r28_Write_l2 l9 l2 i11 (F_r28_Write_l1 l2 m12) ((((l9.length : Int) : Int) - 0).toNat + 1) (-1) 0 else some l9)
def F_r28_Write (set1 : (List Action)) (l2 : (List Action)) : Option (List Action) :=
  (appd [] set1).bind fun l4 => F_r28_Write_l1 l2 ((((l2.length : Int) : Int) - 0).toNat + 1) l4 0
theorem c_r28_Write (set1 : (List Action)) (l2 : (List Action)) (r : (List Action)) (h : F_r28_Write set1 l2 = some r) : PCon Tryz.prog 153 [rd (ksl kAction) set1, rd (ksl kAction) l2] (rd (ksl kAction) r) := by
  refine PCon.of (Con.intro0 Tryz.func153 rfl Tryz.ntmps153 rfl fun w H => ?_)
  unfold F_r28_Write at h
  refine SR <| Ac (op_assign (A := rd (ksl kAction) []) rfl rfl vnil) rfl <| Nl <| AW.seq ?_
  obtain ⟨l4, hl4, h⟩ := bsome h
  refine Rg <| Ct rfl (op_buildSlice 1001 (ps := []) (l := []) rfl rfl sl122 zr121 rfl rfl rfl rfl) ?_
  rintro _ ⟨v3, rfl⟩
  refine Md rfl <| Ct rfl (op_append' 1001 hl4 rfl rfl el122 (vt rfl) rfl (vt rfl)) ?_
  rintro _ ⟨v5, rfl⟩
  refine Aw rfl <| Nl <| AW.seq <| SR <| Ak rfl <| Nl <| AW.block <| AW.loopG (d := []) (ν := Nat × (List Action) × Int × Value) (fun n => True ∧ F_r28_Write_l1 l2 n.1 n.2.1 n.2.2.1 = some r) (fun n => n.1) (fun n => [(1, rd (ksl kAction) l2), (5, raw n.2.2.2), (6, rd (kint .i64) n.2.2.1)]) (fun n => [(1001, Row n.2.2.2 121 kAction n.2.1)]) (((((l2.length : Int) : Int) - 0).toNat + 1), l4, 0, v5) ⟨trivial, h⟩ ⟨rfl, ⟨rfl, rfl, rfl, trivial⟩, ⟨rfl, trivial⟩⟩ ?_
  rintro ⟨m12, l9, i11, v10⟩ ⟨hsf1, h⟩
  change True at hsf1
  change F_r28_Write_l1 l2 m12 l9 i11 = some r at h
  change AW _ _ _ ⟨slots [(1, rd (ksl kAction) l2), (5, raw v10), (6, rd (kint .i64) i11)], ress [(1001, Row v10 121 kAction l9)], _⟩
  cases m12 with
  | zero => cases h
  | succ m12 =>
    unfold F_r28_Write_l1 at h
    generalize hgo1 : F_r28_Write_l1 l2 m12 = go1 at h
    refine AW.seq <| SR <| Md rfl <| Md rfl <| Ac (op_len' rfl rfl sl122 (vt rfl)) rfl <| Ac (op_lss rfl rfl (vt rfl) (vt rfl)) rfl <| Nl <| Cn rfl (fun hc => ?_) (fun hc => ?_)
    · have h := cond_t hc h
      refine AW.skip <| AW.seq <| AW.block <| SR <| Ak rfl <| Nl <| AW.seq <| SR <| Ak rfl <| Nl <| AW.block <| AW.loopG (d := []) (ν := Nat × Int × Int) (fun n => True ∧ F_r28_Write_l2 l9 l2 i11 go1 n.1 n.2.1 n.2.2 = some r) (fun n => n.1) (fun n => [(1, rd (ksl kAction) l2), (5, raw v10), (6, rd (kint .i64) i11), (7, rd (kint .i64) n.2.1), (8, rd (kint .i64) n.2.2)]) (fun n => [(1001, Row v10 121 kAction l9)]) (((((l9.length : Int) : Int) - 0).toNat + 1), (-1), 0) ⟨trivial, h⟩ ⟨rfl, ⟨rfl, rfl, rfl, rfl, rfl, trivial⟩, ⟨rfl, trivial⟩⟩ ?_
      rintro ⟨m17, at15, j16⟩ ⟨hsf2, h⟩
      change True at hsf2
      change F_r28_Write_l2 l9 l2 i11 go1 m17 at15 j16 = some r at h
      change AW _ _ _ ⟨slots [(1, rd (ksl kAction) l2), (5, raw v10), (6, rd (kint .i64) i11), (7, rd (kint .i64) at15), (8, rd (kint .i64) j16)], ress [(1001, Row v10 121 kAction l9)], _⟩
      cases m17 with
      | zero => cases h
      | succ m17 =>
        unfold F_r28_Write_l2 at h
        generalize hgo2 : F_r28_Write_l2 l9 l2 i11 go1 m17 = go2 at h
        refine AW.seq <| SR <| Md rfl <| Mw rfl <| Ac (op_leno 1001 rfl rfl sl122 (vt rfl) rfl) rfl <| Ac (op_lss rfl rfl (vt rfl) (vt rfl)) rfl <| Nl <| Cn rfl (fun hc => ?_) (fun hc => ?_)
        · have h := cond_t hc h
          refine AW.skip <| AW.seq <| AW.block <| AW.seq ?_
          obtain ⟨e18, he18, h⟩ := bsome h
          obtain ⟨e19, he19, h⟩ := bsome h
          obtain ⟨x20, hx20, h⟩ := bsome h
          refine AW.regionAny [⟨[7], [24], [], []⟩, ⟨[24], [25], [], []⟩, ⟨[25], [26], [], []⟩, ⟨[5, 26], [27], [], []⟩, ⟨[8, 26], [28], [], []⟩, ⟨[27, 28, 26], [29], [1001], []⟩, ⟨[29, 26], [30], [1001], []⟩, ⟨[1, 26], [31], [], []⟩, ⟨[6, 26], [32], [], []⟩, ⟨[31, 32, 26], [33], [], []⟩, ⟨[33, 26], [34], [], []⟩, ⟨[30, 34, 26], [35], [], []⟩, ⟨[35, 26], [36], [], []⟩] mixed (by kernel_rfl) <| SMd rfl <| Sc (lo [24] [] rfl fun S hs hr => op_lss rfl rfl (vh hs 24 rfl rfl) (vk rfl)) rfl <| SMd rfl <| Sc (lg [5, 26] [] rfl fun hq S hs hr => op_move (A := raw v10) rfl rfl (vh hs 5 rfl rfl)) rfl <| Sc (lg [8, 26] [] rfl fun hq S hs hr => op_move (A := rd (kint .i64) j16) rfl rfl (vh hs 8 rfl rfl)) rfl <| Sc (lg [27, 28, 26] [1001] rfl fun hq S hs hr => op_indexo' 1001 rfl rfl sl122 (vgt ((hs 27 rfl).trans rfl) hq) ((hr 1001 rfl).trans rfl) (vgt ((hs 28 rfl).trans rfl) hq) (opt_t he18 hq)) rfl <| Sc (lg [29, 26] [1001] rfl fun hq S hs hr => op_loado' 1001 rfl rfl ty121 (vgt ((hs 29 rfl).trans rfl) hq) ((hr 1001 rfl).trans rfl) (lget_of (opt_t he18 hq)).2) rfl <| Sc (lg [1, 26] [] rfl fun hq S hs hr => op_move (A := rd (ksl kAction) l2) rfl rfl (vh hs 1 rfl rfl)) rfl <| Sc (lg [6, 26] [] rfl fun hq S hs hr => op_move (A := rd (kint .i64) i11) rfl rfl (vh hs 6 rfl rfl)) rfl <| Sc (lg [31, 32, 26] [] rfl fun hq S hs hr => op_indexs' rfl rfl sl122 (vgt ((hs 31 rfl).trans rfl) hq) (vgt ((hs 32 rfl).trans rfl) hq) (opt_t he19 hq)) rfl <| Sc (lg [33, 26] [] rfl fun hq S hs hr => op_loadp rfl rfl ty121 (vgt ((hs 33 rfl).trans rfl) hq)) rfl <| Sc (lg [30, 34, 26] [] rfl fun hq S hs hr => op_call (xs := [.tmp 30, .tmp 34]) (c_r28_like _ _ _ (opt_t hx20 hq)) e224 rfl rfl ⟨vgt ((hs 30 rfl).trans rfl) hq, vgt ((hs 34 rfl).trans rfl) hq, trivial⟩) rfl <| Sc (lo [35, 26] [] rfl fun S hs hr => op_all rfl rfl (vh hs 26 rfl rfl) (vh hs 35 rfl rfl)) rfl <| Cn rfl (fun hc => ?_) (fun hc => ?_)
          · have h := cond_t hc h
            refine Rg <| Md rfl <| As rfl <| Nl <| Rg <| Md rfl <| Ac (op_add rfl rfl (vt rfl) (vk rfl)) rfl <| As rfl <| Nl ?_
            subst hgo2
            exact ⟨(m17, j16, (IntKind.i64.wrap (j16 + 1))), Nat.lt_succ_self _, ⟨trivial, h⟩, ⟨rfl, ⟨rfl, rfl, rfl, rfl, rfl, trivial⟩, ⟨rfl, trivial⟩⟩⟩
          · have h := cond_f hc h
            refine AW.skip <| Rg <| Md rfl <| Ac (op_add rfl rfl (vt rfl) (vk rfl)) rfl <| As rfl <| Nl ?_
            subst hgo2
            exact ⟨(m17, at15, (IntKind.i64.wrap (j16 + 1))), Nat.lt_succ_self _, ⟨trivial, h⟩, ⟨rfl, ⟨rfl, rfl, rfl, rfl, rfl, trivial⟩, ⟨rfl, trivial⟩⟩⟩
        · have h := cond_f hc h
          refine AW.exit <| SR <| Md rfl <| Ac (op_lss rfl rfl (vt rfl) (vk rfl)) rfl <| Nl <| Cn rfl (fun hc => ?_) (fun hc => ?_)
          · have h := cond_t hc h
            obtain ⟨e21, he21, h⟩ := bsome h
            obtain ⟨l22, hl22, h⟩ := bsome h
            refine Rg <| Mw rfl <| Md rfl <| Md rfl <| Ac (op_indexs' rfl rfl sl122 (vt rfl) (vt rfl) he21) rfl <| Lp1 ty121 rfl <| Ac (op_buildSliceR (ps := [(0, .tmp 44)]) (l := [e21]) rfl rfl sl122 zr121 rfl rfl ⟨_, _, Lens.idx 1 kAction 0 (by decide), _, rfl, (vt rfl), rfl⟩ rfl) rfl <| Ct rfl (op_append' 1001 hl22 rfl rfl el122 (vt rfl) rfl (vt rfl)) ?_
            rintro _ ⟨v23, rfl⟩
            refine Aw rfl <| Nl <| Rg <| Md rfl <| Ac (op_add rfl rfl (vt rfl) (vk rfl)) rfl <| As rfl <| Nl ?_
            subst hgo1
            exact ⟨(m12, l22, (IntKind.i64.wrap (i11 + 1)), v23), Nat.lt_succ_self _, ⟨trivial, h⟩, ⟨rfl, ⟨rfl, rfl, rfl, trivial⟩, ⟨rfl, trivial⟩⟩⟩
          · have h := cond_f hc h
            obtain ⟨e24, he24, h⟩ := bsome h
            obtain ⟨e25, he25, h⟩ := bsome h
            refine Rg <| Mw rfl <| Md rfl <| Md rfl <| Md rfl <| Ac (op_indexs' rfl rfl sl122 (vt rfl) (vt rfl) he24) rfl <| Lp1 ty121 rfl <| Ac (op_indexo' 1001 rfl rfl sl122 (vt rfl) rfl (vt rfl) he25) rfl <| Ac (op_storeo' 1001 rfl rfl ty121 (vt rfl) rfl (lget_of he25).2 (vt rfl)) rfl <| Nl <| Rg <| Md rfl <| Ac (op_add rfl rfl (vt rfl) (vk rfl)) rfl <| As rfl <| Nl ?_
            subst hgo1
            exact ⟨(m12, (List.set l9 at15.toNat e24), (IntKind.i64.wrap (i11 + 1)), v10), Nat.lt_succ_self _, ⟨trivial, h⟩, ⟨rfl, ⟨rfl, rfl, rfl, trivial⟩, ⟨rfl, trivial⟩⟩⟩
    · have h := cond_f hc h
      refine AW.exit <| SR <| Mw rfl <| Aw rfl <| Nl <| AW.freezes [4, 5, 54] 1001 rfl ⟨rfl, rfl, rfl, trivial⟩ rfl <| AW.ret ?_
      obtain rfl := si h
      exact ret1 Tryz.results153 rfl (out_tmp rfl)
def F_r28_of_l1 (l1 : (List Action)) (kind2 : Int) : Nat → (List Action) → Int → Option (List Action)
  | 0, _, _ => none
  | m10 + 1, l7, i9 => (bif (decide (i9 < (l1.length : Int))) then (lget l1 i9).bind fun e11 => (bif (decide (e11.Kind = kind2)) then (lget l1 i9).bind fun e12 => (appd l7 [e12]).bind fun l13 => (F_r28_of_l1 l1 kind2 m10) l13 (IntKind.i64.wrap (i9 + 1)) else (F_r28_of_l1 l1 kind2 m10) l7 (IntKind.i64.wrap (i9 + 1))) else some l7)
def F_r28_of (l1 : (List Action)) (kind2 : Int) : Option (List Action) :=
  F_r28_of_l1 l1 kind2 ((((l1.length : Int) : Int) - 0).toNat + 1) [] 0
theorem c_r28_of_o (l1 : (List Action)) (kind2 : Int) (r : (List Action)) (h : F_r28_of l1 kind2 = some r) : Con Tryz.prog 227 [rd (ksl kAction) l1, rd (kint .i64) kind2] emp (fun v => raw v) (fun v => Row v 121 kAction r) := by
  refine Con.intro0 Tryz.func227 rfl Tryz.ntmps227 rfl fun w H => ?_
  unfold F_r28_of at h
  refine AW.seq <| AW.newnil 1001 121 kAction <| Rg <| Ac (op_assign rfl rfl vc) rfl <| Nl <| SR <| Ct rfl (op_buildSlice 1002 (ps := []) (l := []) rfl rfl sl122 zr121 rfl rfl rfl rfl) ?_
  rintro _ ⟨v3, rfl⟩
  refine Aw rfl <| Nl <| AW.seq <| SR <| Ak rfl <| Nl <| AW.block <| AW.loopG (d := []) (ν := Nat × (List Action) × Int × Value) (fun n => True ∧ F_r28_of_l1 l1 kind2 n.1 n.2.1 n.2.2.1 = some r) (fun n => n.1) (fun n => [(0, rd (ksl kAction) l1), (1, rd (kint .i64) kind2), (5, raw n.2.2.2), (6, rd (kint .i64) n.2.2.1)]) (fun n => [(1002, Row n.2.2.2 121 kAction n.2.1)]) (((((l1.length : Int) : Int) - 0).toNat + 1), [], 0, v3) ⟨trivial, h⟩ ⟨rfl, ⟨rfl, rfl, rfl, rfl, trivial⟩, ⟨rfl, trivial⟩⟩ ?_
  rintro ⟨m10, l7, i9, v8⟩ ⟨hsf1, h⟩
  change True at hsf1
  change F_r28_of_l1 l1 kind2 m10 l7 i9 = some r at h
  change AW _ _ _ ⟨slots [(0, rd (ksl kAction) l1), (1, rd (kint .i64) kind2), (5, raw v8), (6, rd (kint .i64) i9)], ress [(1002, Row v8 121 kAction l7)], _⟩
  cases m10 with
  | zero => cases h
  | succ m10 =>
    unfold F_r28_of_l1 at h
    generalize hgo1 : F_r28_of_l1 l1 kind2 m10 = go1 at h
    refine AW.seq <| SR <| Md rfl <| Md rfl <| Ac (op_len' rfl rfl sl122 (vt rfl)) rfl <| Ac (op_lss rfl rfl (vt rfl) (vt rfl)) rfl <| Nl <| Cn rfl (fun hc => ?_) (fun hc => ?_)
    · have h := cond_t hc h
      refine AW.skip <| AW.seq <| AW.block <| AW.seq ?_
      obtain ⟨e11, he11, h⟩ := bsome h
      refine Rg <| Md rfl <| Md rfl <| Ac (op_indexs' rfl rfl sl122 (vt rfl) (vt rfl) he11) rfl <| Fp lAction_0 fl121_0 rfl <| Lp1 ty3 rfl <| Md rfl <| Ac (op_eql rfl rfl (vt rfl) (vt rfl)) rfl <| Nl <| Cn rfl (fun hc => ?_) (fun hc => ?_)
      · have h := cond_t hc h
        obtain ⟨e12, he12, h⟩ := bsome h
        obtain ⟨l13, hl13, h⟩ := bsome h
        refine Rg <| Mw rfl <| Md rfl <| Md rfl <| Ac (op_indexs' rfl rfl sl122 (vt rfl) (vt rfl) he12) rfl <| Lp1 ty121 rfl <| Ac (op_buildSliceR (ps := [(0, .tmp 25)]) (l := [e12]) rfl rfl sl122 zr121 rfl rfl ⟨_, _, Lens.idx 1 kAction 0 (by decide), _, rfl, (vt rfl), rfl⟩ rfl) rfl <| Ct rfl (op_append' 1002 hl13 rfl rfl el122 (vt rfl) rfl (vt rfl)) ?_
        rintro _ ⟨v14, rfl⟩
        refine Aw rfl <| Nl <| Rg <| Md rfl <| Ac (op_add rfl rfl (vt rfl) (vk rfl)) rfl <| As rfl <| Nl ?_
        subst hgo1
        exact ⟨(m10, l13, (IntKind.i64.wrap (i9 + 1)), v14), Nat.lt_succ_self _, ⟨trivial, h⟩, ⟨rfl, ⟨rfl, rfl, rfl, rfl, trivial⟩, ⟨rfl, trivial⟩⟩⟩
      · have h := cond_f hc h
        refine AW.skip <| Rg <| Md rfl <| Ac (op_add rfl rfl (vt rfl) (vk rfl)) rfl <| As rfl <| Nl ?_
        subst hgo1
        exact ⟨(m10, l7, (IntKind.i64.wrap (i9 + 1)), v8), Nat.lt_succ_self _, ⟨trivial, h⟩, ⟨rfl, ⟨rfl, rfl, rfl, rfl, trivial⟩, ⟨rfl, trivial⟩⟩⟩
    · have h := cond_f hc h
      refine AW.exit <| SR <| Mw rfl <| Aw rfl <| Nl <| AW.ret ?_
      obtain rfl := si h
      exact ret1R (i := 1002) Tryz.results227 rfl rfl rfl
theorem c_r28_of (l1 : (List Action)) (kind2 : Int) (r : (List Action)) (h : F_r28_of l1 kind2 = some r) : PCon Tryz.prog 227 [rd (ksl kAction) l1, rd (kint .i64) kind2] (rd (ksl kAction) r) := PCon.of_row (c_r28_of_o l1 kind2 r h)
def F_r28_fields_l3 (at11 : Int) (l1 : (List Action)) (i8 : Int) (go1 : (List Action) → Int → Option (List Action)) : Nat → (List Action) → Int → Option (List Action)
  | 0, _, _ => none
  | m21 + 1, l19, j20 => (bif (decide (j20 > at11)) then (lget l19 (IntKind.i64.wrap (j20 - 1))).bind fun e22 => (lget l19 j20).bind fun e23 => (F_r28_fields_l3 at11 l1 i8 go1 m21) (List.set l19 j20.toNat e22) (IntKind.i64.wrap (j20 - 1)) else (lget l1 i8).bind fun e24 => (lget l19 at11).bind fun e25 => go1 (List.set l19 at11.toNat e24) (IntKind.i64.wrap (i8 + 1)))
def F_r28_fields_l2 (l6 : (List Action)) (l1 : (List Action)) (i8 : Int) (go1 : (List Action) → Int → Option (List Action)) : Nat → Int → Option (List Action)
  | 0, _ => none
  | m12 + 1, at11 => (opt (decide (at11 > 0)) (lget l6 (IntKind.i64.wrap (at11 - 1)))).bind fun e13 => (opt (decide (at11 > 0)) (lget l1 i8)).bind fun e14 => (bif ((decide (at11 > 0)) && (decide (e13.Oxm.Field > e14.Oxm.Field))) then (F_r28_fields_l2 l6 l1 i8 go1 m12) (IntKind.i64.wrap (at11 - 1)) else (appd l6 [(⟨0, 0, 0, 0, 0, zOxm⟩ : Action)]).bind fun l15 => F_r28_fields_l3 at11 l1 i8 go1 ((((IntKind.i64.wrap ((l15.length : Int) - 1)) : Int) - at11).toNat + 1) l15 (IntKind.i64.wrap ((l15.length : Int) - 1)))
def F_r28_fields_l1 (l1 : (List Action)) : Nat → (List Action) → Int → Option (List Action)
  | 0, _, _ => none
  | m9 + 1, l6, i8 => (bif (decide (i8 < (l1.length : Int))) then F_r28_fields_l2 l6 l1 i8 (F_r28_fields_l1 l1 m9) fuel0 (l6.length : Int) else some l6)
def F_r28_fields (l1 : (List Action)) : Option (List Action) :=
  F_r28_fields_l1 l1 ((((l1.length : Int) : Int) - 0).toNat + 1) [] 0
theorem c_r28_fields (l1 : (List Action)) (r : (List Action)) (h : F_r28_fields l1 = some r) : PCon Tryz.prog 228 [rd (ksl kAction) l1] (rd (ksl kAction) r) := by
  refine PCon.of (Con.intro0 Tryz.func228 rfl Tryz.ntmps228 rfl fun w H => ?_)
  unfold F_r28_fields at h
  refine SR <| Ac (op_assign (A := rd (ksl kAction) []) rfl rfl vnil) rfl <| Nl <| SR <| Ct rfl (op_buildSlice 1001 (ps := []) (l := []) rfl rfl sl122 zr121 rfl rfl rfl rfl) ?_
  rintro _ ⟨v2, rfl⟩
  refine Aw rfl <| Nl <| AW.seq <| SR <| Ak rfl <| Nl <| AW.block <| AW.loopG (d := []) (ν := Nat × (List Action) × Int × Value) (fun n => True ∧ F_r28_fields_l1 l1 n.1 n.2.1 n.2.2.1 = some r) (fun n => n.1) (fun n => [(0, rd (ksl kAction) l1), (3, raw n.2.2.2), (4, rd (kint .i64) n.2.2.1)]) (fun n => [(1001, Row n.2.2.2 121 kAction n.2.1)]) (((((l1.length : Int) : Int) - 0).toNat + 1), [], 0, v2) ⟨trivial, h⟩ ⟨rfl, ⟨rfl, rfl, rfl, trivial⟩, ⟨rfl, trivial⟩⟩ ?_
  rintro ⟨m9, l6, i8, v7⟩ ⟨hsf1, h⟩
  change True at hsf1
  change F_r28_fields_l1 l1 m9 l6 i8 = some r at h
  change AW _ _ _ ⟨slots [(0, rd (ksl kAction) l1), (3, raw v7), (4, rd (kint .i64) i8)], ress [(1001, Row v7 121 kAction l6)], _⟩
  cases m9 with
  | zero => cases h
  | succ m9 =>
    unfold F_r28_fields_l1 at h
    generalize hgo1 : F_r28_fields_l1 l1 m9 = go1 at h
    refine AW.seq <| SR <| Md rfl <| Md rfl <| Ac (op_len' rfl rfl sl122 (vt rfl)) rfl <| Ac (op_lss rfl rfl (vt rfl) (vt rfl)) rfl <| Nl <| Cn rfl (fun hc => ?_) (fun hc => ?_)
    · have h := cond_t hc h
      refine AW.skip <| AW.seq <| AW.block <| SR <| Mw rfl <| Ac (op_leno 1001 rfl rfl sl122 (vt rfl) rfl) rfl <| As rfl <| Nl <| AW.seq <| AW.block <| AW.loopG (d := []) (ν := Nat × Int) (fun n => True ∧ F_r28_fields_l2 l6 l1 i8 go1 n.1 n.2 = some r) (fun n => n.1) (fun n => [(0, rd (ksl kAction) l1), (3, raw v7), (4, rd (kint .i64) i8), (5, rd (kint .i64) n.2)]) (fun n => [(1001, Row v7 121 kAction l6)]) (fuel0, (l6.length : Int)) ⟨trivial, h⟩ ⟨rfl, ⟨rfl, rfl, rfl, rfl, trivial⟩, ⟨rfl, trivial⟩⟩ ?_
      rintro ⟨m12, at11⟩ ⟨hsf2, h⟩
      change True at hsf2
      change F_r28_fields_l2 l6 l1 i8 go1 m12 at11 = some r at h
      change AW _ _ _ ⟨slots [(0, rd (ksl kAction) l1), (3, raw v7), (4, rd (kint .i64) i8), (5, rd (kint .i64) at11)], ress [(1001, Row v7 121 kAction l6)], _⟩
      cases m12 with
      | zero => cases h
      | succ m12 =>
        unfold F_r28_fields_l2 at h
        generalize hgo2 : F_r28_fields_l2 l6 l1 i8 go1 m12 = go2 at h
        refine AW.seq <| AW.seq ?_
        obtain ⟨e13, he13, h⟩ := bsome h
        obtain ⟨e14, he14, h⟩ := bsome h
        refine AW.regionAny [⟨[5], [16], [], []⟩, ⟨[16], [17], [], []⟩, ⟨[17], [18], [], []⟩, ⟨[3, 18], [19], [], []⟩, ⟨[5, 18], [20], [], []⟩, ⟨[20, 18], [21], [], []⟩, ⟨[19, 21, 18], [22], [1001], []⟩, ⟨[22, 18], [23], [], []⟩, ⟨[23, 18], [24], [], []⟩, ⟨[24, 18], [25], [1001], []⟩, ⟨[0, 18], [26], [], []⟩, ⟨[4, 18], [27], [], []⟩, ⟨[26, 27, 18], [28], [], []⟩, ⟨[28, 18], [29], [], []⟩, ⟨[29, 18], [30], [], []⟩, ⟨[30, 18], [31], [], []⟩, ⟨[25, 31, 18], [32], [], []⟩, ⟨[32, 18], [33], [], []⟩] mixed (by kernel_rfl) <| SMd rfl <| Sc (lo [16] [] rfl fun S hs hr => op_gtr rfl rfl (vh hs 16 rfl rfl) (vk rfl)) rfl <| SMd rfl <| Sc (lg [3, 18] [] rfl fun hq S hs hr => op_move (A := raw v7) rfl rfl (vh hs 3 rfl rfl)) rfl <| Sc (lg [5, 18] [] rfl fun hq S hs hr => op_move (A := rd (kint .i64) at11) rfl rfl (vh hs 5 rfl rfl)) rfl <| Sc (lg [20, 18] [] rfl fun hq S hs hr => op_sub rfl rfl (vgt ((hs 20 rfl).trans rfl) hq) (vk rfl)) rfl <| Sc (lg [19, 21, 18] [1001] rfl fun hq S hs hr => op_indexo' 1001 rfl rfl sl122 (vgt ((hs 19 rfl).trans rfl) hq) ((hr 1001 rfl).trans rfl) (vgt ((hs 21 rfl).trans rfl) hq) (opt_t he13 hq)) rfl <| Sc (lg [22, 18] [] rfl fun hq S hs hr => op_fieldo lAction_5 rfl rfl fl121_5 (vgt ((hs 22 rfl).trans rfl) hq)) rfl <| Sc (lg [23, 18] [] rfl fun hq S hs hr => op_fieldo lOxm_0 rfl rfl fl119_0 (vgt ((hs 23 rfl).trans rfl) hq)) rfl <| Sc (lg [24, 18] [1001] rfl fun hq S hs hr => op_loado' 1001 rfl rfl ty3 (vgt ((hs 24 rfl).trans rfl) hq) ((hr 1001 rfl).trans rfl) (lget_of (opt_t he13 hq)).2) rfl <| Sc (lg [0, 18] [] rfl fun hq S hs hr => op_move (A := rd (ksl kAction) l1) rfl rfl (vh hs 0 rfl rfl)) rfl <| Sc (lg [4, 18] [] rfl fun hq S hs hr => op_move (A := rd (kint .i64) i8) rfl rfl (vh hs 4 rfl rfl)) rfl <| Sc (lg [26, 27, 18] [] rfl fun hq S hs hr => op_indexs' rfl rfl sl122 (vgt ((hs 26 rfl).trans rfl) hq) (vgt ((hs 27 rfl).trans rfl) hq) (opt_t he14 hq)) rfl <| Sc (lg [28, 18] [] rfl fun hq S hs hr => op_fieldp lAction_5 rfl rfl fl121_5 (vgt ((hs 28 rfl).trans rfl) hq)) rfl <| Sc (lg [29, 18] [] rfl fun hq S hs hr => op_fieldp lOxm_0 rfl rfl fl119_0 (vgt ((hs 29 rfl).trans rfl) hq)) rfl <| Sc (lg [30, 18] [] rfl fun hq S hs hr => op_loadp rfl rfl ty3 (vgt ((hs 30 rfl).trans rfl) hq)) rfl <| Sc (lg [25, 31, 18] [] rfl fun hq S hs hr => op_gtr rfl rfl (vgt ((hs 25 rfl).trans rfl) hq) (vgt ((hs 31 rfl).trans rfl) hq)) rfl <| Sc (lo [32, 18] [] rfl fun S hs hr => op_all rfl rfl (vh hs 18 rfl rfl) (vh hs 32 rfl rfl)) rfl <| Cn rfl (fun hc => ?_) (fun hc => ?_)
        · have h := cond_t hc h
          refine AW.skip <| AW.block <| Rg <| Md rfl <| Ac (op_sub rfl rfl (vt rfl) (vk rfl)) rfl <| As rfl <| Nl ?_
          subst hgo2
          exact ⟨(m12, (IntKind.i64.wrap (at11 - 1))), Nat.lt_succ_self _, ⟨trivial, h⟩, ⟨rfl, ⟨rfl, rfl, rfl, rfl, trivial⟩, ⟨rfl, trivial⟩⟩⟩
        · have h := cond_f hc h
          refine AW.exit <| AW.seq ?_
          obtain ⟨l15, hl15, h⟩ := bsome h
          refine Rg <| Mw rfl <| Ac (op_build (ps := []) (x := (⟨0, 0, 0, 0, 0, zOxm⟩ : Action)) rfl rfl rfl (by kernel_rfl) zr121 rfl) rfl <| Ac (op_buildSliceR (ps := [(0, .tmp 37)]) (l := [(⟨0, 0, 0, 0, 0, zOxm⟩ : Action)]) rfl rfl sl122 zr121 rfl rfl ⟨_, _, Lens.idx 1 kAction 0 (by decide), _, rfl, (vt rfl), rfl⟩ rfl) rfl <| Ct rfl (op_append' 1001 hl15 rfl rfl el122 (vt rfl) rfl (vt rfl)) ?_
          rintro _ ⟨v16, rfl⟩
          refine Aw rfl <| Nl <| AW.seq <| SR <| Mw rfl <| Ac (op_leno 1001 rfl rfl sl122 (vt rfl) rfl) rfl <| Ac (op_sub rfl rfl (vt rfl) (vk rfl)) rfl <| As rfl <| Nl <| AW.block <| AW.loopG (d := []) (ν := Nat × (List Action) × Int) (fun n => True ∧ F_r28_fields_l3 at11 l1 i8 go1 n.1 n.2.1 n.2.2 = some r) (fun n => n.1) (fun n => [(0, rd (ksl kAction) l1), (3, raw v16), (4, rd (kint .i64) i8), (5, rd (kint .i64) at11), (6, rd (kint .i64) n.2.2)]) (fun n => [(1001, Row v16 121 kAction n.2.1)]) (((((IntKind.i64.wrap ((l15.length : Int) - 1)) : Int) - at11).toNat + 1), l15, (IntKind.i64.wrap ((l15.length : Int) - 1))) ⟨trivial, h⟩ ⟨rfl, ⟨rfl, rfl, rfl, rfl, rfl, trivial⟩, ⟨rfl, trivial⟩⟩ ?_
          rintro ⟨m21, l19, j20⟩ ⟨hsf3, h⟩
          change True at hsf3
          change F_r28_fields_l3 at11 l1 i8 go1 m21 l19 j20 = some r at h
          change AW _ _ _ ⟨slots [(0, rd (ksl kAction) l1), (3, raw v16), (4, rd (kint .i64) i8), (5, rd (kint .i64) at11), (6, rd (kint .i64) j20)], ress [(1001, Row v16 121 kAction l19)], _⟩
          cases m21 with
          | zero => cases h
          | succ m21 =>
            unfold F_r28_fields_l3 at h
            generalize hgo3 : F_r28_fields_l3 at11 l1 i8 go1 m21 = go3 at h
            refine AW.seq <| SR <| Md rfl <| Md rfl <| Ac (op_gtr rfl rfl (vt rfl) (vt rfl)) rfl <| Nl <| Cn rfl (fun hc => ?_) (fun hc => ?_)
            · have h := cond_t hc h
              refine AW.skip <| AW.seq <| AW.block ?_
              obtain ⟨e22, he22, h⟩ := bsome h
              obtain ⟨e23, he23, h⟩ := bsome h
              refine Rg <| Mw rfl <| Md rfl <| Mw rfl <| Md rfl <| Ac (op_sub rfl rfl (vt rfl) (vk rfl)) rfl <| Ac (op_indexo' 1001 rfl rfl sl122 (vt rfl) rfl (vt rfl) he22) rfl <| Ac (op_loado' 1001 rfl rfl ty121 (vt rfl) rfl (lget_of he22).2) rfl <| Ac (op_indexo' 1001 rfl rfl sl122 (vt rfl) rfl (vt rfl) he23) rfl <| Ac (op_storeo' 1001 rfl rfl ty121 (vt rfl) rfl (lget_of he23).2 (vt rfl)) rfl <| Nl <| Rg <| Md rfl <| Ac (op_sub rfl rfl (vt rfl) (vk rfl)) rfl <| As rfl <| Nl ?_
              subst hgo3
              exact ⟨(m21, (List.set l19 j20.toNat e22), (IntKind.i64.wrap (j20 - 1))), Nat.lt_succ_self _, ⟨trivial, h⟩, ⟨rfl, ⟨rfl, rfl, rfl, rfl, rfl, trivial⟩, ⟨rfl, trivial⟩⟩⟩
            · have h := cond_f hc h
              refine AW.exit ?_
              obtain ⟨e24, he24, h⟩ := bsome h
              obtain ⟨e25, he25, h⟩ := bsome h
              refine Rg <| Mw rfl <| Md rfl <| Md rfl <| Md rfl <| Ac (op_indexs' rfl rfl sl122 (vt rfl) (vt rfl) he24) rfl <| Lp1 ty121 rfl <| Ac (op_indexo' 1001 rfl rfl sl122 (vt rfl) rfl (vt rfl) he25) rfl <| Ac (op_storeo' 1001 rfl rfl ty121 (vt rfl) rfl (lget_of he25).2 (vt rfl)) rfl <| Nl <| Rg <| Md rfl <| Ac (op_add rfl rfl (vt rfl) (vk rfl)) rfl <| As rfl <| Nl ?_
              subst hgo1
              exact ⟨(m9, (List.set l19 at11.toNat e24), (IntKind.i64.wrap (i8 + 1)), v16), Nat.lt_succ_self _, ⟨trivial, h⟩, ⟨rfl, ⟨rfl, rfl, rfl, trivial⟩, ⟨rfl, trivial⟩⟩⟩
    · have h := cond_f hc h
      refine AW.exit <| SR <| Mw rfl <| Aw rfl <| Nl <| AW.freezes [2, 3, 63] 1001 rfl ⟨rfl, rfl, rfl, trivial⟩ rfl <| AW.ret ?_
      obtain rfl := si h
      exact ret1 Tryz.results228 rfl (out_tmp rfl)
def F_r28_List (set1 : (List Action)) : Option (List Action) :=
  (F_r28_of set1 18).bind fun x2 => (F_r28_of set1 17).bind fun x4 => (appd x2 x4).bind fun l5 => (F_r28_of set1 25).bind fun x7 => (F_r28_fields x7).bind fun x8 => (appd l5 x8).bind fun l9 => (F_r28_of set1 22).bind fun x11 => (bif (decide ((x11.length : Int) > 0)) then (appd l9 x11).bind fun l12 => some l12 else (F_r28_of set1 0).bind fun x14 => (appd l9 x14).bind fun l15 => some l15)
theorem c_r28_List (set1 : (List Action)) (r : (List Action)) (h : F_r28_List set1 = some r) : PCon Tryz.prog 155 [rd (ksl kAction) set1] (rd (ksl kAction) r) := by
  refine PCon.of (Con.intro0 Tryz.func155 rfl Tryz.ntmps155 rfl fun w H => ?_)
  unfold F_r28_List at h
  refine SR <| Ac (op_assign (A := rd (ksl kAction) []) rfl rfl vnil) rfl <| Nl <| AW.seq ?_
  obtain ⟨x2, hx2, h⟩ := bsome h
  obtain ⟨x4, hx4, h⟩ := bsome h
  obtain ⟨l5, hl5, h⟩ := bsome h
  refine Rg <| Md rfl <| Ct rfl (op_callR 1001 (xs := [.tmp 5, .const (Value.int IntKind.i64 18)]) (c_r28_of_o _ _ _ hx2) e227 rfl rfl ⟨vt rfl, vk rfl, trivial⟩ rfl) ?_
  rintro _ ⟨v3, rfl⟩
  refine Md rfl <| Ac (op_call (xs := [.tmp 7, .const (Value.int IntKind.i64 17)]) (c_r28_of _ _ _ hx4) e227 rfl rfl ⟨vt rfl, vk rfl, trivial⟩) rfl <| Ct rfl (op_append' 1001 hl5 rfl rfl el122 (vt rfl) rfl (vt rfl)) ?_
  rintro _ ⟨v6, rfl⟩
  refine Aw rfl <| Nl <| AW.seq ?_
  obtain ⟨x7, hx7, h⟩ := bsome h
  obtain ⟨x8, hx8, h⟩ := bsome h
  obtain ⟨l9, hl9, h⟩ := bsome h
  refine Rg <| Mw rfl <| Md rfl <| Ac (op_call (xs := [.tmp 11, .const (Value.int IntKind.i64 25)]) (c_r28_of _ _ _ hx7) e227 rfl rfl ⟨vt rfl, vk rfl, trivial⟩) rfl <| Cl [12] (c_r28_fields _ _ hx8) e228 rfl <| Ct rfl (op_append' 1001 hl9 rfl rfl el122 (vt rfl) rfl (vt rfl)) ?_
  rintro _ ⟨v10, rfl⟩
  refine Aw rfl <| Nl <| AW.seq <| AW.seq ?_
  obtain ⟨x11, hx11, h⟩ := bsome h
  refine Rg <| Md rfl <| Ac (op_call (xs := [.tmp 15, .const (Value.int IntKind.i64 22)]) (c_r28_of _ _ _ hx11) e227 rfl rfl ⟨vt rfl, vk rfl, trivial⟩) rfl <| As rfl <| Nl <| SR <| Md rfl <| Ac (op_len' rfl rfl sl122 (vt rfl)) rfl <| Ac (op_gtr rfl rfl (vt rfl) (vk rfl)) rfl <| Nl <| Cn rfl (fun hc => ?_) (fun hc => ?_)
  · have h := cond_t hc h
    refine AW.seq ?_
    obtain ⟨l12, hl12, h⟩ := bsome h
    refine Rg <| Mw rfl <| Md rfl <| Ct rfl (op_append' 1001 hl12 rfl rfl el122 (vt rfl) rfl (vt rfl)) ?_
    rintro _ ⟨v13, rfl⟩
    refine Aw rfl <| Nl <| AW.freezes [2, 22] 1001 rfl ⟨rfl, rfl, trivial⟩ rfl <| AW.ret ?_
    obtain rfl := si h
    exact ret1 Tryz.results155 rfl (out_tmp rfl)
  · have h := cond_f hc h
    refine AW.skip <| AW.seq ?_
    obtain ⟨x14, hx14, h⟩ := bsome h
    obtain ⟨l15, hl15, h⟩ := bsome h
    refine Rg <| Mw rfl <| Md rfl <| Ac (op_call (xs := [.tmp 24, .const (Value.int IntKind.i64 0)]) (c_r28_of _ _ _ hx14) e227 rfl rfl ⟨vt rfl, vk rfl, trivial⟩) rfl <| Ct rfl (op_append' 1001 hl15 rfl rfl el122 (vt rfl) rfl (vt rfl)) ?_
    rintro _ ⟨v16, rfl⟩
    refine Aw rfl <| Nl <| AW.freezes [2, 26] 1001 rfl ⟨rfl, rfl, trivial⟩ rfl <| AW.ret ?_
    obtain rfl := si h
    exact ret1 Tryz.results155 rfl (out_tmp rfl)
def F_r03_Right (f1 : Int) : Option Bool :=
  some ((decide (f1 ≥ 0)) && (decide (f1 < 24)))
theorem c_r03_Right (f1 : Int) (r : Bool) (h : F_r03_Right f1 = some r) : PCon Tryz.prog 225 [rd (kint .i64) f1] (rd kbool r) := by
  refine PCon.of (Con.intro0 Tryz.func225 rfl Tryz.ntmps225 rfl fun w H => ?_)
  unfold F_r03_Right at h
  refine SR <| Ab rfl <| Nl <| SR <| Md rfl <| Ac (op_geq rfl rfl (vt rfl) (vk rfl)) rfl <| Md rfl <| Gd rfl (fun hq => op_move (A := rd (kint .i64) f1) rfl rfl (vt rfl)) <| Gd rfl (fun hq => op_lss rfl rfl (vgt rfl hq) (vk rfl)) <| Ac (op_all rfl rfl (vt rfl) (vt rfl)) rfl <| As rfl <| Nl <| AW.ret ?_
  obtain rfl := si h
  exact ret1 Tryz.results225 rfl (out_tmp rfl)
end Go.Proofs.YtknpgojdkobgjaaGreat.W
set_option linter.unusedVariables false
set_option maxRecDepth 4000
set_option linter.unusedSimpArgs false
namespace Go.Proofs.YtknpgojdkobgjaaGreat.W
open Go Go.Wb
theorem e342 : Ent Tryz.prog 342 := Ent.mk Tryz.func342 rfl rfl
theorem e334 : Ent Tryz.prog 334 := Ent.mk Tryz.func334 rfl rfl
theorem e309 : Ent Tryz.prog 309 := Ent.mk Tryz.func309 rfl rfl
theorem e225 : Ent Tryz.prog 225 := Ent.mk Tryz.func225 rfl rfl
theorem e308 : Ent Tryz.prog 308 := Ent.mk Tryz.func308 rfl rfl
theorem e307 : Ent Tryz.prog 307 := Ent.mk Tryz.func307 rfl rfl
theorem e144 : Ent Tryz.prog 144 := Ent.mk Tryz.func144 rfl rfl
def F_r03_upper (f1 : Int) : Option (ByteArray × Int × Int × Bool) :=
  (bif (decide (f1 = 12)) then some ({ data := #[116, 99, 112, 95, 115, 114, 99] }, 13, 16, false) else (bif (decide (f1 = 13)) then some ({ data := #[116, 99, 112, 95, 100, 115, 116] }, 14, 16, false) else (bif (decide (f1 = 14)) then some ({ data := #[117, 100, 112, 95, 115, 114, 99] }, 15, 16, false) else (bif (decide (f1 = 15)) then some ({ data := #[117, 100, 112, 95, 100, 115, 116] }, 16, 16, false) else (bif (decide (f1 = 16)) then some ({ data := #[105, 99, 109, 112, 118, 52, 95, 116, 121, 112, 101] }, 19, 8, false) else (bif (decide (f1 = 17)) then some ({ data := #[105, 99, 109, 112, 118, 52, 95, 99, 111, 100, 101] }, 20, 8, false) else (bif (decide (f1 = 18)) then some ({ data := #[97, 114, 112, 95, 111, 112] }, 21, 16, false) else (bif (decide (f1 = 19)) then some ({ data := #[97, 114, 112, 95, 115, 112, 97] }, 22, 32, true) else (bif (decide (f1 = 20)) then some ({ data := #[97, 114, 112, 95, 116, 112, 97] }, 23, 32, true) else (bif (decide (f1 = 21)) then some ({ data := #[105, 112, 118, 54, 95, 115, 114, 99] }, 26, 128, true) else (bif (decide (f1 = 22)) then some ({ data := #[105, 112, 118, 54, 95, 100, 115, 116] }, 27, 128, true) else (bif (decide (f1 = 23)) then some ({ data := #[109, 112, 108, 115, 95, 108, 97, 98, 101, 108] }, 34, 20, false) else some ({ data := #[] }, (-1), 0, false)))))))))))))
theorem c_r03_upper (f1 : Int) (r : (ByteArray × Int × Int × Bool)) (h : F_r03_upper f1 = some r) : PCon Tryz.prog 342 [rd (kint .i64) f1] (tup4 (rd kstr r.1) (rd (kint .i64) r.2.1) (rd (kint .i64) r.2.2.1) (rd kbool r.2.2.2)) := by
  refine PCon.of (Con.intro0 Tryz.func342 rfl Tryz.ntmps342 rfl fun w H => ?_)
  unfold F_r03_upper at h
  refine SR <| Ac (op_assign (A := rd kstr { data := #[] }) rfl rfl (vs (by decide))) rfl <| Ak rfl <| Ak rfl <| Ab rfl <| Nl <| AW.seq <| SR <| Md rfl <| Nl <| AW.block <| SR <| Ac (op_eql rfl rfl (vt rfl) (vk rfl)) rfl <| As rfl <| Nl <| Cn rfl (fun hc => ?_) (fun hc => ?_)
  · have h := cond_t hc h
    refine SR <| Ac (op_assign (A := rd kstr { data := #[116, 99, 112, 95, 115, 114, 99] }) rfl rfl (vs (by decide))) rfl <| Ak rfl <| Ak rfl <| Ab rfl <| Nl <| AW.ret ?_
    obtain rfl := si h
    exact ret4 Tryz.results342 rfl (out_tmp rfl) (out_tmp rfl) (out_tmp rfl) (out_tmp rfl)
  · have h := cond_f hc h
    refine SR <| Ac (op_eql rfl rfl (vt rfl) (vk rfl)) rfl <| As rfl <| Nl <| Cn rfl (fun hc => ?_) (fun hc => ?_)
    · have h := cond_t hc h
      refine SR <| Ac (op_assign (A := rd kstr { data := #[116, 99, 112, 95, 100, 115, 116] }) rfl rfl (vs (by decide))) rfl <| Ak rfl <| Ak rfl <| Ab rfl <| Nl <| AW.ret ?_
      obtain rfl := si h
      exact ret4 Tryz.results342 rfl (out_tmp rfl) (out_tmp rfl) (out_tmp rfl) (out_tmp rfl)
    · have h := cond_f hc h
      refine SR <| Ac (op_eql rfl rfl (vt rfl) (vk rfl)) rfl <| As rfl <| Nl <| Cn rfl (fun hc => ?_) (fun hc => ?_)
      · have h := cond_t hc h
        refine SR <| Ac (op_assign (A := rd kstr { data := #[117, 100, 112, 95, 115, 114, 99] }) rfl rfl (vs (by decide))) rfl <| Ak rfl <| Ak rfl <| Ab rfl <| Nl <| AW.ret ?_
        obtain rfl := si h
        exact ret4 Tryz.results342 rfl (out_tmp rfl) (out_tmp rfl) (out_tmp rfl) (out_tmp rfl)
      · have h := cond_f hc h
        refine SR <| Ac (op_eql rfl rfl (vt rfl) (vk rfl)) rfl <| As rfl <| Nl <| Cn rfl (fun hc => ?_) (fun hc => ?_)
        · have h := cond_t hc h
          refine SR <| Ac (op_assign (A := rd kstr { data := #[117, 100, 112, 95, 100, 115, 116] }) rfl rfl (vs (by decide))) rfl <| Ak rfl <| Ak rfl <| Ab rfl <| Nl <| AW.ret ?_
          obtain rfl := si h
          exact ret4 Tryz.results342 rfl (out_tmp rfl) (out_tmp rfl) (out_tmp rfl) (out_tmp rfl)
        · have h := cond_f hc h
          refine SR <| Ac (op_eql rfl rfl (vt rfl) (vk rfl)) rfl <| As rfl <| Nl <| Cn rfl (fun hc => ?_) (fun hc => ?_)
          · have h := cond_t hc h
            refine SR <| Ac (op_assign (A := rd kstr { data := #[105, 99, 109, 112, 118, 52, 95, 116, 121, 112, 101] }) rfl rfl (vs (by decide))) rfl <| Ak rfl <| Ak rfl <| Ab rfl <| Nl <| AW.ret ?_
            obtain rfl := si h
            exact ret4 Tryz.results342 rfl (out_tmp rfl) (out_tmp rfl) (out_tmp rfl) (out_tmp rfl)
          · have h := cond_f hc h
            refine SR <| Ac (op_eql rfl rfl (vt rfl) (vk rfl)) rfl <| As rfl <| Nl <| Cn rfl (fun hc => ?_) (fun hc => ?_)
            · have h := cond_t hc h
              refine SR <| Ac (op_assign (A := rd kstr { data := #[105, 99, 109, 112, 118, 52, 95, 99, 111, 100, 101] }) rfl rfl (vs (by decide))) rfl <| Ak rfl <| Ak rfl <| Ab rfl <| Nl <| AW.ret ?_
              obtain rfl := si h
              exact ret4 Tryz.results342 rfl (out_tmp rfl) (out_tmp rfl) (out_tmp rfl) (out_tmp rfl)
            · have h := cond_f hc h
              refine SR <| Ac (op_eql rfl rfl (vt rfl) (vk rfl)) rfl <| As rfl <| Nl <| Cn rfl (fun hc => ?_) (fun hc => ?_)
              · have h := cond_t hc h
                refine SR <| Ac (op_assign (A := rd kstr { data := #[97, 114, 112, 95, 111, 112] }) rfl rfl (vs (by decide))) rfl <| Ak rfl <| Ak rfl <| Ab rfl <| Nl <| AW.ret ?_
                obtain rfl := si h
                exact ret4 Tryz.results342 rfl (out_tmp rfl) (out_tmp rfl) (out_tmp rfl) (out_tmp rfl)
              · have h := cond_f hc h
                refine SR <| Ac (op_eql rfl rfl (vt rfl) (vk rfl)) rfl <| As rfl <| Nl <| Cn rfl (fun hc => ?_) (fun hc => ?_)
                · have h := cond_t hc h
                  refine SR <| Ac (op_assign (A := rd kstr { data := #[97, 114, 112, 95, 115, 112, 97] }) rfl rfl (vs (by decide))) rfl <| Ak rfl <| Ak rfl <| Ab rfl <| Nl <| AW.ret ?_
                  obtain rfl := si h
                  exact ret4 Tryz.results342 rfl (out_tmp rfl) (out_tmp rfl) (out_tmp rfl) (out_tmp rfl)
                · have h := cond_f hc h
                  refine SR <| Ac (op_eql rfl rfl (vt rfl) (vk rfl)) rfl <| As rfl <| Nl <| Cn rfl (fun hc => ?_) (fun hc => ?_)
                  · have h := cond_t hc h
                    refine SR <| Ac (op_assign (A := rd kstr { data := #[97, 114, 112, 95, 116, 112, 97] }) rfl rfl (vs (by decide))) rfl <| Ak rfl <| Ak rfl <| Ab rfl <| Nl <| AW.ret ?_
                    obtain rfl := si h
                    exact ret4 Tryz.results342 rfl (out_tmp rfl) (out_tmp rfl) (out_tmp rfl) (out_tmp rfl)
                  · have h := cond_f hc h
                    refine SR <| Ac (op_eql rfl rfl (vt rfl) (vk rfl)) rfl <| As rfl <| Nl <| Cn rfl (fun hc => ?_) (fun hc => ?_)
                    · have h := cond_t hc h
                      refine SR <| Ac (op_assign (A := rd kstr { data := #[105, 112, 118, 54, 95, 115, 114, 99] }) rfl rfl (vs (by decide))) rfl <| Ak rfl <| Ak rfl <| Ab rfl <| Nl <| AW.ret ?_
                      obtain rfl := si h
                      exact ret4 Tryz.results342 rfl (out_tmp rfl) (out_tmp rfl) (out_tmp rfl) (out_tmp rfl)
                    · have h := cond_f hc h
                      refine SR <| Ac (op_eql rfl rfl (vt rfl) (vk rfl)) rfl <| As rfl <| Nl <| Cn rfl (fun hc => ?_) (fun hc => ?_)
                      · have h := cond_t hc h
                        refine SR <| Ac (op_assign (A := rd kstr { data := #[105, 112, 118, 54, 95, 100, 115, 116] }) rfl rfl (vs (by decide))) rfl <| Ak rfl <| Ak rfl <| Ab rfl <| Nl <| AW.ret ?_
                        obtain rfl := si h
                        exact ret4 Tryz.results342 rfl (out_tmp rfl) (out_tmp rfl) (out_tmp rfl) (out_tmp rfl)
                      · have h := cond_f hc h
                        refine SR <| Ac (op_eql rfl rfl (vt rfl) (vk rfl)) rfl <| As rfl <| Nl <| Cn rfl (fun hc => ?_) (fun hc => ?_)
                        · have h := cond_t hc h
                          refine SR <| Ac (op_assign (A := rd kstr { data := #[109, 112, 108, 115, 95, 108, 97, 98, 101, 108] }) rfl rfl (vs (by decide))) rfl <| Ak rfl <| Ak rfl <| Ab rfl <| Nl <| AW.ret ?_
                          obtain rfl := si h
                          exact ret4 Tryz.results342 rfl (out_tmp rfl) (out_tmp rfl) (out_tmp rfl) (out_tmp rfl)
                        · have h := cond_f hc h
                          refine AW.skip <| SR <| Ac (op_assign (A := rd kstr { data := #[] }) rfl rfl (vs (by decide))) rfl <| Ak rfl <| Ak rfl <| Ab rfl <| Nl <| AW.ret ?_
                          obtain rfl := si h
                          exact ret4 Tryz.results342 rfl (out_tmp rfl) (out_tmp rfl) (out_tmp rfl) (out_tmp rfl)
def F_r03_row (f1 : Int) : Option (ByteArray × Int × Int × Bool) :=
  (bif (decide (f1 = 0)) then some ({ data := #[105, 110, 95, 112, 111, 114, 116] }, 0, 32, false) else (bif (decide (f1 = 1)) then some ({ data := #[109, 101, 116, 97, 100, 97, 116, 97] }, 2, 64, true) else (bif (decide (f1 = 2)) then some ({ data := #[101, 116, 104, 95, 100, 115, 116] }, 3, 48, true) else (bif (decide (f1 = 3)) then some ({ data := #[101, 116, 104, 95, 115, 114, 99] }, 4, 48, true) else (bif (decide (f1 = 4)) then some ({ data := #[101, 116, 104, 95, 116, 121, 112, 101] }, 5, 16, false) else (bif (decide (f1 = 5)) then some ({ data := #[118, 108, 97, 110, 95, 118, 105, 100] }, 6, 13, true) else (bif (decide (f1 = 6)) then some ({ data := #[118, 108, 97, 110, 95, 112, 99, 112] }, 7, 3, false) else (bif (decide (f1 = 7)) then some ({ data := #[105, 112, 95, 100, 115, 99, 112] }, 8, 6, false) else (bif (decide (f1 = 8)) then some ({ data := #[105, 112, 95, 101, 99, 110] }, 9, 2, false) else (bif (decide (f1 = 9)) then some ({ data := #[105, 112, 95, 112, 114, 111, 116, 111] }, 10, 8, false) else (bif (decide (f1 = 10)) then some ({ data := #[105, 112, 118, 52, 95, 115, 114, 99] }, 11, 32, true) else (bif (decide (f1 = 11)) then some ({ data := #[105, 112, 118, 52, 95, 100, 115, 116] }, 12, 32, true) else (F_r03_upper f1).bind fun x2 => some (x2.1, x2.2.1, x2.2.2.1, x2.2.2.2)))))))))))))
theorem c_r03_row (f1 : Int) (r : (ByteArray × Int × Int × Bool)) (h : F_r03_row f1 = some r) : PCon Tryz.prog 334 [rd (kint .i64) f1] (tup4 (rd kstr r.1) (rd (kint .i64) r.2.1) (rd (kint .i64) r.2.2.1) (rd kbool r.2.2.2)) := by
  refine PCon.of (Con.intro0 Tryz.func334 rfl Tryz.ntmps334 rfl fun w H => ?_)
  unfold F_r03_row at h
  refine SR <| Ac (op_assign (A := rd kstr { data := #[] }) rfl rfl (vs (by decide))) rfl <| Ak rfl <| Ak rfl <| Ab rfl <| Nl <| AW.seq <| SR <| Md rfl <| Nl <| AW.block <| SR <| Ac (op_eql rfl rfl (vt rfl) (vk rfl)) rfl <| As rfl <| Nl <| Cn rfl (fun hc => ?_) (fun hc => ?_)
  · have h := cond_t hc h
    refine SR <| Ac (op_assign (A := rd kstr { data := #[105, 110, 95, 112, 111, 114, 116] }) rfl rfl (vs (by decide))) rfl <| Ak rfl <| Ak rfl <| Ab rfl <| Nl <| AW.ret ?_
    obtain rfl := si h
    exact ret4 Tryz.results334 rfl (out_tmp rfl) (out_tmp rfl) (out_tmp rfl) (out_tmp rfl)
  · have h := cond_f hc h
    refine SR <| Ac (op_eql rfl rfl (vt rfl) (vk rfl)) rfl <| As rfl <| Nl <| Cn rfl (fun hc => ?_) (fun hc => ?_)
    · have h := cond_t hc h
      refine SR <| Ac (op_assign (A := rd kstr { data := #[109, 101, 116, 97, 100, 97, 116, 97] }) rfl rfl (vs (by decide))) rfl <| Ak rfl <| Ak rfl <| Ab rfl <| Nl <| AW.ret ?_
      obtain rfl := si h
      exact ret4 Tryz.results334 rfl (out_tmp rfl) (out_tmp rfl) (out_tmp rfl) (out_tmp rfl)
    · have h := cond_f hc h
      refine SR <| Ac (op_eql rfl rfl (vt rfl) (vk rfl)) rfl <| As rfl <| Nl <| Cn rfl (fun hc => ?_) (fun hc => ?_)
      · have h := cond_t hc h
        refine SR <| Ac (op_assign (A := rd kstr { data := #[101, 116, 104, 95, 100, 115, 116] }) rfl rfl (vs (by decide))) rfl <| Ak rfl <| Ak rfl <| Ab rfl <| Nl <| AW.ret ?_
        obtain rfl := si h
        exact ret4 Tryz.results334 rfl (out_tmp rfl) (out_tmp rfl) (out_tmp rfl) (out_tmp rfl)
      · have h := cond_f hc h
        refine SR <| Ac (op_eql rfl rfl (vt rfl) (vk rfl)) rfl <| As rfl <| Nl <| Cn rfl (fun hc => ?_) (fun hc => ?_)
        · have h := cond_t hc h
          refine SR <| Ac (op_assign (A := rd kstr { data := #[101, 116, 104, 95, 115, 114, 99] }) rfl rfl (vs (by decide))) rfl <| Ak rfl <| Ak rfl <| Ab rfl <| Nl <| AW.ret ?_
          obtain rfl := si h
          exact ret4 Tryz.results334 rfl (out_tmp rfl) (out_tmp rfl) (out_tmp rfl) (out_tmp rfl)
        · have h := cond_f hc h
          refine SR <| Ac (op_eql rfl rfl (vt rfl) (vk rfl)) rfl <| As rfl <| Nl <| Cn rfl (fun hc => ?_) (fun hc => ?_)
          · have h := cond_t hc h
            refine SR <| Ac (op_assign (A := rd kstr { data := #[101, 116, 104, 95, 116, 121, 112, 101] }) rfl rfl (vs (by decide))) rfl <| Ak rfl <| Ak rfl <| Ab rfl <| Nl <| AW.ret ?_
            obtain rfl := si h
            exact ret4 Tryz.results334 rfl (out_tmp rfl) (out_tmp rfl) (out_tmp rfl) (out_tmp rfl)
          · have h := cond_f hc h
            refine SR <| Ac (op_eql rfl rfl (vt rfl) (vk rfl)) rfl <| As rfl <| Nl <| Cn rfl (fun hc => ?_) (fun hc => ?_)
            · have h := cond_t hc h
              refine SR <| Ac (op_assign (A := rd kstr { data := #[118, 108, 97, 110, 95, 118, 105, 100] }) rfl rfl (vs (by decide))) rfl <| Ak rfl <| Ak rfl <| Ab rfl <| Nl <| AW.ret ?_
              obtain rfl := si h
              exact ret4 Tryz.results334 rfl (out_tmp rfl) (out_tmp rfl) (out_tmp rfl) (out_tmp rfl)
            · have h := cond_f hc h
              refine SR <| Ac (op_eql rfl rfl (vt rfl) (vk rfl)) rfl <| As rfl <| Nl <| Cn rfl (fun hc => ?_) (fun hc => ?_)
              · have h := cond_t hc h
                refine SR <| Ac (op_assign (A := rd kstr { data := #[118, 108, 97, 110, 95, 112, 99, 112] }) rfl rfl (vs (by decide))) rfl <| Ak rfl <| Ak rfl <| Ab rfl <| Nl <| AW.ret ?_
                obtain rfl := si h
                exact ret4 Tryz.results334 rfl (out_tmp rfl) (out_tmp rfl) (out_tmp rfl) (out_tmp rfl)
              · have h := cond_f hc h
                refine SR <| Ac (op_eql rfl rfl (vt rfl) (vk rfl)) rfl <| As rfl <| Nl <| Cn rfl (fun hc => ?_) (fun hc => ?_)
                · have h := cond_t hc h
                  refine SR <| Ac (op_assign (A := rd kstr { data := #[105, 112, 95, 100, 115, 99, 112] }) rfl rfl (vs (by decide))) rfl <| Ak rfl <| Ak rfl <| Ab rfl <| Nl <| AW.ret ?_
                  obtain rfl := si h
                  exact ret4 Tryz.results334 rfl (out_tmp rfl) (out_tmp rfl) (out_tmp rfl) (out_tmp rfl)
                · have h := cond_f hc h
                  refine SR <| Ac (op_eql rfl rfl (vt rfl) (vk rfl)) rfl <| As rfl <| Nl <| Cn rfl (fun hc => ?_) (fun hc => ?_)
                  · have h := cond_t hc h
                    refine SR <| Ac (op_assign (A := rd kstr { data := #[105, 112, 95, 101, 99, 110] }) rfl rfl (vs (by decide))) rfl <| Ak rfl <| Ak rfl <| Ab rfl <| Nl <| AW.ret ?_
                    obtain rfl := si h
                    exact ret4 Tryz.results334 rfl (out_tmp rfl) (out_tmp rfl) (out_tmp rfl) (out_tmp rfl)
                  · have h := cond_f hc h
                    refine SR <| Ac (op_eql rfl rfl (vt rfl) (vk rfl)) rfl <| As rfl <| Nl <| Cn rfl (fun hc => ?_) (fun hc => ?_)
                    · have h := cond_t hc h
                      refine SR <| Ac (op_assign (A := rd kstr { data := #[105, 112, 95, 112, 114, 111, 116, 111] }) rfl rfl (vs (by decide))) rfl <| Ak rfl <| Ak rfl <| Ab rfl <| Nl <| AW.ret ?_
                      obtain rfl := si h
                      exact ret4 Tryz.results334 rfl (out_tmp rfl) (out_tmp rfl) (out_tmp rfl) (out_tmp rfl)
                    · have h := cond_f hc h
                      refine SR <| Ac (op_eql rfl rfl (vt rfl) (vk rfl)) rfl <| As rfl <| Nl <| Cn rfl (fun hc => ?_) (fun hc => ?_)
                      · have h := cond_t hc h
                        refine SR <| Ac (op_assign (A := rd kstr { data := #[105, 112, 118, 52, 95, 115, 114, 99] }) rfl rfl (vs (by decide))) rfl <| Ak rfl <| Ak rfl <| Ab rfl <| Nl <| AW.ret ?_
                        obtain rfl := si h
                        exact ret4 Tryz.results334 rfl (out_tmp rfl) (out_tmp rfl) (out_tmp rfl) (out_tmp rfl)
                      · have h := cond_f hc h
                        refine SR <| Ac (op_eql rfl rfl (vt rfl) (vk rfl)) rfl <| As rfl <| Nl <| Cn rfl (fun hc => ?_) (fun hc => ?_)
                        · have h := cond_t hc h
                          refine SR <| Ac (op_assign (A := rd kstr { data := #[105, 112, 118, 52, 95, 100, 115, 116] }) rfl rfl (vs (by decide))) rfl <| Ak rfl <| Ak rfl <| Ab rfl <| Nl <| AW.ret ?_
                          obtain rfl := si h
                          exact ret4 Tryz.results334 rfl (out_tmp rfl) (out_tmp rfl) (out_tmp rfl) (out_tmp rfl)
                        · have h := cond_f hc h
                          refine AW.skip <| AW.seq ?_
                          obtain ⟨x2, hx2, h⟩ := bsome h
                          refine Rg <| Md rfl <| Cl [31] (c_r03_upper _ _ hx2) e342 rfl <| Ac (op_ext4_0 rfl rfl (vt rfl)) rfl <| Ac (op_ext4_1 rfl rfl (vt rfl)) rfl <| Ac (op_ext4_2 rfl rfl (vt rfl)) rfl <| Ac (op_ext4_3 rfl rfl (vt rfl)) rfl <| As rfl <| As rfl <| As rfl <| As rfl <| Nl <| AW.ret ?_
                          obtain rfl := si h
                          exact ret4 Tryz.results334 rfl (out_tmp rfl) (out_tmp rfl) (out_tmp rfl) (out_tmp rfl)
def F_r03_Bits (f1 : Int) : Option Int :=
  (F_r03_row f1).bind fun x2 => some x2.2.2.1
theorem c_r03_Bits (f1 : Int) (r : Int) (h : F_r03_Bits f1 = some r) : PCon Tryz.prog 308 [rd (kint .i64) f1] (rd (kint .i64) r) := by
  refine PCon.of (Con.intro0 Tryz.func308 rfl Tryz.ntmps308 rfl fun w H => ?_)
  unfold F_r03_Bits at h
  refine SR <| Ak rfl <| Nl <| AW.seq ?_
  obtain ⟨x2, hx2, h⟩ := bsome h
  refine Rg <| Md rfl <| Cl [8] (c_r03_row _ _ hx2) e334 rfl <| Ac (op_move (A := tup4 (rd kstr x2.1) (rd (kint .i64) x2.2.1) (rd (kint .i64) x2.2.2.1) (rd kbool x2.2.2.2)) rfl rfl (vt rfl)) rfl <| Ac (op_ext4_0 rfl rfl (vt rfl)) rfl <| Ac (op_ext4_1 rfl rfl (vt rfl)) rfl <| Ac (op_ext4_2 rfl rfl (vt rfl)) rfl <| Ac (op_ext4_3 rfl rfl (vt rfl)) rfl <| As rfl <| As rfl <| As rfl <| As rfl <| Nl <| SR <| Md rfl <| As rfl <| Nl <| AW.ret ?_
  obtain rfl := si h
  exact ret1 Tryz.results308 rfl (out_tmp rfl)
def F_r02_Bit (i1 : Int) : Option Wide :=
  (bif ((decide (i1 < 0)) || (decide (i1 > 127))) then some (⟨0, 0⟩ : Wide) else (bif (decide (i1 < 64)) then (oushl (1 : BitVec 64) ((BitVec.ofInt 64 i1).toNat : Int)).bind fun q3 => some (⟨0, q3⟩ : Wide) else (oushl (1 : BitVec 64) ((BitVec.ofInt 64 (IntKind.i64.wrap (i1 - 64))).toNat : Int)).bind fun q4 => some (⟨q4, 0⟩ : Wide)))
theorem c_r02_Bit (i1 : Int) (r : Wide) (h : F_r02_Bit i1 = some r) : PCon Tryz.prog 309 [rd (kint .i64) i1] (rd kWide r) := by
  refine PCon.of (Con.intro0 Tryz.func309 rfl Tryz.ntmps309 rfl fun w H => ?_)
  unfold F_r02_Bit at h
  refine SR <| Ct rfl (op_alloc 3 rfl rfl zr42) ?_
  rintro _ ⟨g2, rfl⟩
  refine Nl <| AW.seq <| AW.block <| SR <| Md rfl <| Ac (op_lss rfl rfl (vt rfl) (vk rfl)) rfl <| Md rfl <| Gd rfl (fun hq => op_move (A := rd (kint .i64) i1) rfl rfl (vt rfl)) <| Gd rfl (fun hq => op_gtr rfl rfl (vgt rfl hq) (vk rfl)) <| Ac (op_any rfl rfl (vt rfl) (vt rfl)) rfl <| As rfl <| Nl <| Cn rfl (fun hc => ?_) (fun hc => ?_)
  · have h := cond_t hc h
    refine SR <| Ac (op_build (ps := []) (x := (⟨0, 0⟩ : Wide)) rfl rfl rfl (by kernel_rfl) zr42 rfl) rfl <| Sto ty42 3 rfl <| Nl <| AW.ret ?_
    obtain rfl := si h
    exact ret1 Tryz.results309 rfl (out_cell rfl (i := 3) rfl ty42)
  · have h := cond_f hc h
    refine SR <| Md rfl <| Ac (op_lss rfl rfl (vt rfl) (vk rfl)) rfl <| As rfl <| Nl <| Cn rfl (fun hc => ?_) (fun hc => ?_)
    · have h := cond_t hc h
      refine AW.seq ?_
      obtain ⟨q3, hq3, h⟩ := bsome h
      refine Rg <| Md rfl <| Ac (op_convu rfl rfl us3 un360 (vt rfl)) rfl <| Ac (op_ushl rfl rfl (vku (1 : BitVec 64) rfl) (vu64 (vt rfl)) hq3) rfl <| Ac (op_build (ps := [(1, .tmp 16)]) (x := (⟨0, q3⟩ : Wide)) rfl rfl rfl (by kernel_rfl) zr42 ⟨_, _, lWide_1, _, by kernel_rfl, (vt rfl), rfl⟩) rfl <| Sto ty42 3 rfl <| Nl <| AW.ret ?_
      obtain rfl := si h
      exact ret1 Tryz.results309 rfl (out_cell rfl (i := 3) rfl ty42)
    · have h := cond_f hc h
      refine AW.skip <| AW.seq ?_
      obtain ⟨q4, hq4, h⟩ := bsome h
      refine Rg <| Md rfl <| Ac (op_sub rfl rfl (vt rfl) (vk rfl)) rfl <| Ac (op_convu rfl rfl us3 un360 (vt rfl)) rfl <| Ac (op_ushl rfl rfl (vku (1 : BitVec 64) rfl) (vu64 (vt rfl)) hq4) rfl <| Ac (op_build (ps := [(0, .tmp 21)]) (x := (⟨q4, 0⟩ : Wide)) rfl rfl rfl (by kernel_rfl) zr42 ⟨_, _, lWide_0, _, by kernel_rfl, (vt rfl), rfl⟩) rfl <| Sto ty42 3 rfl <| Nl <| AW.ret ?_
      obtain rfl := si h
      exact ret1 Tryz.results309 rfl (out_cell rfl (i := 3) rfl ty42)
def F_r02_Low_l1 (n1 : Int) : Nat → Wide → Int → Option Wide
  | 0, _, _ => none
  | m8 + 1, b6, i7 => (bif ((decide (i7 < n1)) && (decide (i7 < 128))) then (F_r02_Bit i7).bind fun x9 => (F_r02_Or b6 x9).bind fun x10 => (F_r02_Low_l1 n1 m8) x10 (IntKind.i64.wrap (i7 + 1)) else some b6)
def F_r02_Low (n1 : Int) : Option Wide :=
  F_r02_Low_l1 n1 fuel0 (⟨0, 0⟩ : Wide) 0
theorem c_r02_Low (n1 : Int) (r : Wide) (h : F_r02_Low n1 = some r) : PCon Tryz.prog 307 [rd (kint .i64) n1] (rd kWide r) := by
  refine PCon.of (Con.intro0 Tryz.func307 rfl Tryz.ntmps307 rfl fun w H => ?_)
  unfold F_r02_Low at h
  refine SR <| Ct rfl (op_alloc 3 rfl rfl zr42) ?_
  rintro _ ⟨g2, rfl⟩
  refine Nl <| SR <| Ac (op_build (ps := []) (x := (⟨0, 0⟩ : Wide)) rfl rfl rfl (by kernel_rfl) zr42 rfl) rfl <| Ct rfl (op_alloc 4 rfl rfl zr42) ?_
  rintro _ ⟨g3, rfl⟩
  refine Sto ty42 4 rfl <| Nl <| AW.seq <| SR <| Ak rfl <| Nl <| AW.block <| AW.loopG (d := []) (ν := Nat × Wide × Int) (fun n => True ∧ F_r02_Low_l1 n1 n.1 n.2.1 n.2.2 = some r) (fun n => n.1) (fun n => [(0, rd (kint .i64) n1), (2, ptrL g2 (Lens.id kWide)), (3, ptrL g3 (Lens.id kWide)), (4, rd (kint .i64) n.2.2)]) (fun n => [(3, Blk g2 42 kWide zWide), (4, Blk g3 42 kWide n.2.1)]) (fuel0, (⟨0, 0⟩ : Wide), 0) ⟨trivial, h⟩ ⟨rfl, ⟨rfl, rfl, rfl, rfl, trivial⟩, ⟨rfl, rfl, trivial⟩⟩ ?_
  rintro ⟨m8, b6, i7⟩ ⟨hsf1, h⟩
  change True at hsf1
  change F_r02_Low_l1 n1 m8 b6 i7 = some r at h
  change AW _ _ _ ⟨slots [(0, rd (kint .i64) n1), (2, ptrL g2 (Lens.id kWide)), (3, ptrL g3 (Lens.id kWide)), (4, rd (kint .i64) i7)], ress [(3, Blk g2 42 kWide zWide), (4, Blk g3 42 kWide b6)], _⟩
  cases m8 with
  | zero => cases h
  | succ m8 =>
    unfold F_r02_Low_l1 at h
    generalize hgo1 : F_r02_Low_l1 n1 m8 = go1 at h
    refine AW.seq <| SR <| Md rfl <| Md rfl <| Ac (op_lss rfl rfl (vt rfl) (vt rfl)) rfl <| Md rfl <| Gd rfl (fun hq => op_move (A := rd (kint .i64) i7) rfl rfl (vt rfl)) <| Gd rfl (fun hq => op_lss rfl rfl (vgt rfl hq) (vk rfl)) <| Ac (op_all rfl rfl (vt rfl) (vt rfl)) rfl <| Nl <| Cn rfl (fun hc => ?_) (fun hc => ?_)
    · have h := cond_t hc h
      refine AW.skip <| AW.seq <| AW.block ?_
      obtain ⟨x9, hx9, h⟩ := bsome h
      obtain ⟨x10, hx10, h⟩ := bsome h
      refine AW.regionAny [⟨[3], [15], [4], []⟩, ⟨[4], [16], [], []⟩, ⟨[16], [17], [], []⟩, ⟨[15, 17], [18], [], []⟩, ⟨[3, 18], [], [4], [4]⟩] mixed (by kernel_rfl) <| SLd ty42 4 rfl <| SMd rfl <| SCl [16] (c_r02_Bit _ _ hx9) e309 rfl <| SCl [15, 17] (c_r02_Or _ _ _ hx10) e187 rfl <| SSt ty42 4 rfl <| Rg <| Md rfl <| Ac (op_add rfl rfl (vt rfl) (vk rfl)) rfl <| As rfl <| Nl ?_
      subst hgo1
      exact ⟨(m8, x10, (IntKind.i64.wrap (i7 + 1))), Nat.lt_succ_self _, ⟨trivial, h⟩, ⟨rfl, ⟨rfl, rfl, rfl, rfl, trivial⟩, ⟨rfl, rfl, trivial⟩⟩⟩
    · have h := cond_f hc h
      refine AW.exit <| SR <| Ld ty42 4 rfl <| Sto ty42 3 rfl <| Nl <| AW.ret ?_
      obtain rfl := si h
      exact ret1 Tryz.results307 rfl (out_cell rfl (i := 3) rfl ty42)
def F_r10_Tern (o1 : Oxm) : Option Tern :=
  (F_r03_Right o1.Field).bind fun x4 => (bif (!x4) then some (⟨zWide, zWide⟩ : Tern) else (bif o1.Masked then some (⟨o1.Value, o1.Mask⟩ : Tern) else (F_r03_Bits o1.Field).bind fun x5 => (F_r02_Low x5).bind fun x6 => some (⟨o1.Value, x6⟩ : Tern)))
theorem c_r10_Tern (o1 : Oxm) (r : Tern) (h : F_r10_Tern o1 = some r) : PCon Tryz.prog 271 [rd kOxm o1] (rd kTern r) := by
  refine PCon.of (Con.intro0 Tryz.func271 rfl Tryz.ntmps271 rfl fun w H => ?_)
  unfold F_r10_Tern at h
  refine SR <| Ct rfl (op_box 2 rfl rfl (vt rfl)) ?_
  rintro _ ⟨g2, rfl⟩
  refine Ct rfl (op_alloc 3 rfl rfl zr85) ?_
  rintro _ ⟨g3, rfl⟩
  refine Nl <| AW.seq <| AW.seq ?_
  obtain ⟨x4, hx4, h⟩ := bsome h
  refine Rg <| FdA lOxm_0 fl119_0 rfl <| Ld ty3 2 rfl <| Cl [4] (c_r03_Right _ _ hx4) e225 rfl <| Ac (op_not rfl rfl (vt rfl)) rfl <| Nl <| Cn rfl (fun hc => ?_) (fun hc => ?_)
  · have h := cond_t hc h
    refine SR <| Ac (op_build (ps := []) (x := (⟨zWide, zWide⟩ : Tern)) rfl rfl rfl (by kernel_rfl) zr85 rfl) rfl <| Sto ty85 3 rfl <| Nl <| AW.ret ?_
    obtain rfl := si h
    exact ret1 Tryz.results271 rfl (out_cell rfl (i := 3) rfl ty85)
  · have h := cond_f hc h
    refine AW.skip <| AW.seq <| SR <| FdA lOxm_1 fl119_1 rfl <| Ld ty4 2 rfl <| Nl <| Cn rfl (fun hc => ?_) (fun hc => ?_)
    · have h := cond_t hc h
      refine SR <| FdA lOxm_2 fl119_2 rfl <| Ld ty42 2 rfl <| FdA lOxm_3 fl119_3 rfl <| Ld ty42 2 rfl <| Ac (op_build (ps := [(0, .tmp 11), (1, .tmp 13)]) (x := (⟨o1.Value, o1.Mask⟩ : Tern)) rfl rfl rfl (by kernel_rfl) zr85 ⟨_, _, lTern_0, _, by kernel_rfl, (vt rfl), _, _, lTern_1, _, by kernel_rfl, (vt rfl), rfl⟩) rfl <| Sto ty85 3 rfl <| Nl <| AW.ret ?_
      obtain rfl := si h
      exact ret1 Tryz.results271 rfl (out_cell rfl (i := 3) rfl ty85)
    · have h := cond_f hc h
      refine AW.skip <| AW.seq ?_
      obtain ⟨x5, hx5, h⟩ := bsome h
      obtain ⟨x6, hx6, h⟩ := bsome h
      refine AW.regionAny [⟨[1], [15], [], []⟩, ⟨[15], [16], [2], []⟩, ⟨[1], [17], [], []⟩, ⟨[17], [18], [2], []⟩, ⟨[18], [19], [], []⟩, ⟨[19], [20], [], []⟩, ⟨[16, 20], [21], [], []⟩, ⟨[2, 21], [], [3], [3]⟩] mixed (by kernel_rfl) <| SFd lOxm_2 fl119_2 rfl <| SLd ty42 2 rfl <| SFd lOxm_0 fl119_0 rfl <| SLd ty3 2 rfl <| SCl [18] (c_r03_Bits _ _ hx5) e308 rfl <| SCl [19] (c_r02_Low _ _ hx6) e307 rfl <| Sc (lo [16, 20] [] rfl fun S hs hr => op_build (ps := [(0, .tmp 16), (1, .tmp 20)]) (x := (⟨o1.Value, x6⟩ : Tern)) rfl rfl rfl (by kernel_rfl) zr85 ⟨_, _, lTern_0, _, by kernel_rfl, (vh hs 16 rfl rfl), _, _, lTern_1, _, by kernel_rfl, (vh hs 20 rfl rfl), rfl⟩) rfl <| SSt ty85 3 rfl <| AW.ret ?_
      obtain rfl := si h
      exact ret1 Tryz.results271 rfl (out_cell rfl (i := 3) rfl ty85)
def F_r09_None : Option (Vector Tern 24) :=
  some (Vector.replicate 24 zTern)
theorem c_r09_None (r : (Vector Tern 24)) (h : F_r09_None = some r) : PCon Tryz.prog 80 [] (rd (karr 24 kTern) r) := by
  refine PCon.of (Con.intro0 Tryz.func80 rfl Tryz.ntmps80 rfl fun w H => ?_)
  unfold F_r09_None at h
  refine SR <| Ct rfl (op_alloc 1 rfl rfl zr101) ?_
  rintro _ ⟨g1, rfl⟩
  refine Nl <| SR <| Ac (op_build (ps := []) (x := (Vector.replicate 24 zTern)) rfl rfl rfl (by kernel_rfl) zr101 rfl) rfl <| Sto ty101 1 rfl <| Nl <| AW.ret ?_
  obtain rfl := si h
  exact ret1 Tryz.results80 rfl (out_cell rfl (i := 1) rfl ty101)
def F_r05_Clean (t1 : Tern) : Option Tern :=
  (F_r02_And t1.Value t1.Mask).bind fun x4 => some (⟨x4, t1.Mask⟩ : Tern)
theorem c_r05_Clean (t1 : Tern) (r : Tern) (h : F_r05_Clean t1 = some r) : PCon Tryz.prog 144 [rd kTern t1] (rd kTern r) := by
  refine PCon.of (Con.intro0 Tryz.func144 rfl Tryz.ntmps144 rfl fun w H => ?_)
  unfold F_r05_Clean at h
  refine SR <| Ct rfl (op_box 2 rfl rfl (vt rfl)) ?_
  rintro _ ⟨g2, rfl⟩
  refine Ct rfl (op_alloc 3 rfl rfl zr85) ?_
  rintro _ ⟨g3, rfl⟩
  refine Nl <| AW.seq ?_
  obtain ⟨x4, hx4, h⟩ := bsome h
  refine AW.regionAny [⟨[1], [3], [], []⟩, ⟨[3], [4], [2], []⟩, ⟨[1], [5], [], []⟩, ⟨[5], [6], [2], []⟩, ⟨[4, 6], [7], [], []⟩, ⟨[1], [8], [], []⟩, ⟨[8], [9], [2], []⟩, ⟨[7, 9], [10], [], []⟩, ⟨[2, 10], [], [3], [3]⟩] mixed (by kernel_rfl) <| SFd lTern_0 fl85_0 rfl <| SLd ty42 2 rfl <| SFd lTern_1 fl85_1 rfl <| SLd ty42 2 rfl <| SCl [4, 6] (c_r02_And _ _ _ hx4) e189 rfl <| SFd lTern_1 fl85_1 rfl <| SLd ty42 2 rfl <| Sc (lo [7, 9] [] rfl fun S hs hr => op_build (ps := [(0, .tmp 7), (1, .tmp 9)]) (x := (⟨x4, t1.Mask⟩ : Tern)) rfl rfl rfl (by kernel_rfl) zr85 ⟨_, _, lTern_0, _, by kernel_rfl, (vh hs 7 rfl rfl), _, _, lTern_1, _, by kernel_rfl, (vh hs 9 rfl rfl), rfl⟩) rfl <| SSt ty85 3 rfl <| AW.ret ?_
  obtain rfl := si h
  exact ret1 Tryz.results144 rfl (out_cell rfl (i := 3) rfl ty85)
def F_r09_Clean_l1 : Nat → (Vector Tern 24) → Int → Option (Vector Tern 24)
  | 0, _, _ => none
  | m8 + 1, b6, f7 => (bif (decide (f7 < 24)) then (chk 24 f7).bind fun j9 => (F_r05_Clean (Vector.get b6 j9)).bind fun x10 => (chk 24 f7).bind fun j11 => (F_r09_Clean_l1 m8) (Vector.set b6 j11.1 x10 j11.2) (IntKind.i64.wrap (f7 + 1)) else some b6)
def F_r09_Clean (r1 : (Vector Tern 24)) : Option (Vector Tern 24) :=
  F_r09_Clean_l1 (((24 : Int) - 0).toNat + 1) r1 0
theorem c_r09_Clean (r1 : (Vector Tern 24)) (r : (Vector Tern 24)) (h : F_r09_Clean r1 = some r) : PCon Tryz.prog 145 [rd (karr 24 kTern) r1] (rd (karr 24 kTern) r) := by
  refine PCon.of (Con.intro0 Tryz.func145 rfl Tryz.ntmps145 rfl fun w H => ?_)
  unfold F_r09_Clean at h
  refine SR <| Ct rfl (op_box 2 rfl rfl (vt rfl)) ?_
  rintro _ ⟨g2, rfl⟩
  refine Ct rfl (op_alloc 3 rfl rfl zr101) ?_
  rintro _ ⟨g3, rfl⟩
  refine Nl <| AW.seq <| SR <| Ak rfl <| Nl <| AW.block <| AW.loopG (d := []) (ν := Nat × (Vector Tern 24) × Int) (fun n => True ∧ F_r09_Clean_l1 n.1 n.2.1 n.2.2 = some r) (fun n => n.1) (fun n => [(1, ptrL g2 (Lens.id (karr 24 kTern))), (2, ptrL g3 (Lens.id (karr 24 kTern))), (3, rd (kint .i64) n.2.2)]) (fun n => [(2, Blk g2 101 (karr 24 kTern) n.2.1), (3, Blk g3 101 (karr 24 kTern) (Vector.replicate 24 zTern))]) ((((24 : Int) - 0).toNat + 1), r1, 0) ⟨trivial, h⟩ ⟨rfl, ⟨rfl, rfl, rfl, trivial⟩, ⟨rfl, rfl, trivial⟩⟩ ?_
  rintro ⟨m8, b6, f7⟩ ⟨hsf1, h⟩
  change True at hsf1
  change F_r09_Clean_l1 m8 b6 f7 = some r at h
  change AW _ _ _ ⟨slots [(1, ptrL g2 (Lens.id (karr 24 kTern))), (2, ptrL g3 (Lens.id (karr 24 kTern))), (3, rd (kint .i64) f7)], ress [(2, Blk g2 101 (karr 24 kTern) b6), (3, Blk g3 101 (karr 24 kTern) (Vector.replicate 24 zTern))], _⟩
  cases m8 with
  | zero => cases h
  | succ m8 =>
    unfold F_r09_Clean_l1 at h
    generalize hgo1 : F_r09_Clean_l1 m8 = go1 at h
    refine AW.seq <| SR <| Md rfl <| Ac (op_lss rfl rfl (vt rfl) (vk rfl)) rfl <| Nl <| Cn rfl (fun hc => ?_) (fun hc => ?_)
    · have h := cond_t hc h
      refine AW.skip <| AW.seq <| AW.block ?_
      obtain ⟨j9, hj9, h⟩ := bsome h
      obtain ⟨x10, hx10, h⟩ := bsome h
      obtain ⟨j11, hj11, h⟩ := bsome h
      refine Rg <| Md rfl <| Md rfl <| Ac (op_index' rfl rfl ar101 (vt rfl) (vt rfl) hj9) rfl <| Ld ty85 2 rfl <| Cl [11] (c_r05_Clean _ _ hx10) e144 rfl <| Ac (op_index' rfl rfl ar101 (vt rfl) (vt rfl) hj11) rfl <| Sto ty85 2 rfl <| Nl <| Rg <| Md rfl <| Ac (op_add rfl rfl (vt rfl) (vk rfl)) rfl <| As rfl <| Nl ?_
      subst hgo1
      exact ⟨(m8, (Vector.set b6 j11.1 x10 j11.2), (IntKind.i64.wrap (f7 + 1))), Nat.lt_succ_self _, ⟨trivial, h⟩, ⟨rfl, ⟨rfl, rfl, rfl, trivial⟩, ⟨rfl, rfl, trivial⟩⟩⟩
    · have h := cond_f hc h
      refine AW.exit <| SR <| Ld ty101 2 rfl <| Sto ty101 3 rfl <| Nl <| AW.ret ?_
      obtain rfl := si h
      exact ret1 Tryz.results145 rfl (out_cell rfl (i := 3) rfl ty101)
end Go.Proofs.YtknpgojdkobgjaaGreat.W
set_option linter.unusedVariables false
set_option maxRecDepth 4000
set_option linter.unusedSimpArgs false
namespace Go.Proofs.YtknpgojdkobgjaaGreat.W
open Go Go.Wb
theorem e145 : Ent Tryz.prog 145 := Ent.mk Tryz.func145 rfl rfl
theorem e226 : Ent Tryz.prog 226 := Ent.mk Tryz.func226 rfl rfl
theorem e271 : Ent Tryz.prog 271 := Ent.mk Tryz.func271 rfl rfl
theorem e80 : Ent Tryz.prog 80 := Ent.mk Tryz.func80 rfl rfl
theorem e154 : Ent Tryz.prog 154 := Ent.mk Tryz.func154 rfl rfl
theorem e234 : Ent Tryz.prog 234 := Ent.mk Tryz.func234 rfl rfl
theorem e272 : Ent Tryz.prog 272 := Ent.mk Tryz.func272 rfl rfl
theorem e119 : Ent Tryz.prog 119 := Ent.mk Tryz.func119 rfl rfl
theorem e276 : Ent Tryz.prog 276 := Ent.mk Tryz.func276 rfl rfl
theorem e277 : Ent Tryz.prog 277 := Ent.mk Tryz.func277 rfl rfl
theorem e153 : Ent Tryz.prog 153 := Ent.mk Tryz.func153 rfl rfl
theorem e155 : Ent Tryz.prog 155 := Ent.mk Tryz.func155 rfl rfl
theorem e223 : Ent Tryz.prog 223 := Ent.mk Tryz.func223 rfl rfl
theorem e168 : Ent Tryz.prog 168 := Ent.mk Tryz.func168 rfl rfl
theorem e43 : Ent Tryz.prog 43 := Ent.mk Tryz.func43 rfl rfl
theorem e103 : Ent Tryz.prog 103 := Ent.mk Tryz.func103 rfl rfl
def F_r09_Then_l1 (x7 : (Vector Tern 24)) : Nat → (Vector Tern 24) → Int → Option (Vector Tern 24)
  | 0, _, _ => none
  | m12 + 1, b10, f11 => (bif (decide (f11 < 24)) then (chk 24 f11).bind fun j13 => (chk 24 f11).bind fun j14 => (F_r02_Less ((Vector.get b10 j13).Value) ((Vector.get x7 j14).Mask)).bind fun x15 => (chk 24 f11).bind fun j16 => (F_r02_Or x15 ((Vector.get x7 j16).Value)).bind fun x17 => (chk 24 f11).bind fun j18 => (chk 24 f11).bind fun j19 => (F_r02_Or ((Vector.get b10 j18).Mask) ((Vector.get x7 j19).Mask)).bind fun x20 => (chk 24 f11).bind fun j21 => (F_r09_Then_l1 x7 m12) (Vector.set b10 j21.1 (⟨x17, x20⟩ : Tern) j21.2) (IntKind.i64.wrap (f11 + 1)) else some b10)
def F_r09_Then (a1 : (Vector Tern 24)) (b2 : (Vector Tern 24)) : Option (Vector Tern 24) :=
  (F_r09_Clean a1).bind fun x6 => (F_r09_Clean b2).bind fun x7 => F_r09_Then_l1 x7 (((24 : Int) - 0).toNat + 1) x6 0
theorem c_r09_Then (a1 : (Vector Tern 24)) (b2 : (Vector Tern 24)) (r : (Vector Tern 24)) (h : F_r09_Then a1 b2 = some r) : PCon Tryz.prog 226 [rd (karr 24 kTern) a1, rd (karr 24 kTern) b2] (rd (karr 24 kTern) r) := by
  refine PCon.of (Con.intro0 Tryz.func226 rfl Tryz.ntmps226 rfl fun w H => ?_)
  unfold F_r09_Then at h
  refine SR <| Ct rfl (op_box 3 rfl rfl (vt rfl)) ?_
  rintro _ ⟨g3, rfl⟩
  refine Ct rfl (op_box 4 rfl rfl (vt rfl)) ?_
  rintro _ ⟨g4, rfl⟩
  refine Ct rfl (op_alloc 5 rfl rfl zr101) ?_
  rintro _ ⟨g5, rfl⟩
  refine Nl <| AW.seq ?_
  obtain ⟨x6, hx6, h⟩ := bsome h
  obtain ⟨x7, hx7, h⟩ := bsome h
  refine AW.regionAny [⟨[2], [6], [3], []⟩, ⟨[6], [7], [], []⟩, ⟨[3], [8], [4], []⟩, ⟨[8], [9], [], []⟩, ⟨[2, 7], [], [3], [3]⟩, ⟨[3, 9], [], [4], [4]⟩] mixed (by kernel_rfl) <| SLd ty101 3 rfl <| SCl [6] (c_r09_Clean _ _ hx6) e145 rfl <| SLd ty101 4 rfl <| SCl [8] (c_r09_Clean _ _ hx7) e145 rfl <| SSt ty101 3 rfl <| SSt ty101 4 rfl <| AW.seq <| SR <| Ak rfl <| Nl <| AW.block <| AW.loopG (d := []) (ν := Nat × (Vector Tern 24) × Int) (fun n => True ∧ F_r09_Then_l1 x7 n.1 n.2.1 n.2.2 = some r) (fun n => n.1) (fun n => [(2, ptrL g3 (Lens.id (karr 24 kTern))), (3, ptrL g4 (Lens.id (karr 24 kTern))), (4, ptrL g5 (Lens.id (karr 24 kTern))), (5, rd (kint .i64) n.2.2)]) (fun n => [(3, Blk g3 101 (karr 24 kTern) n.2.1), (4, Blk g4 101 (karr 24 kTern) x7), (5, Blk g5 101 (karr 24 kTern) (Vector.replicate 24 zTern))]) ((((24 : Int) - 0).toNat + 1), x6, 0) ⟨trivial, h⟩ ⟨rfl, ⟨rfl, rfl, rfl, rfl, trivial⟩, ⟨rfl, rfl, rfl, trivial⟩⟩ ?_
  rintro ⟨m12, b10, f11⟩ ⟨hsf1, h⟩
  change True at hsf1
  change F_r09_Then_l1 x7 m12 b10 f11 = some r at h
  change AW _ _ _ ⟨slots [(2, ptrL g3 (Lens.id (karr 24 kTern))), (3, ptrL g4 (Lens.id (karr 24 kTern))), (4, ptrL g5 (Lens.id (karr 24 kTern))), (5, rd (kint .i64) f11)], ress [(3, Blk g3 101 (karr 24 kTern) b10), (4, Blk g4 101 (karr 24 kTern) x7), (5, Blk g5 101 (karr 24 kTern) (Vector.replicate 24 zTern))], _⟩
  cases m12 with
  | zero => cases h
  | succ m12 =>
    unfold F_r09_Then_l1 at h
    generalize hgo1 : F_r09_Then_l1 x7 m12 = go1 at h
    refine AW.seq <| SR <| Md rfl <| Ac (op_lss rfl rfl (vt rfl) (vk rfl)) rfl <| Nl <| Cn rfl (fun hc => ?_) (fun hc => ?_)
    · have h := cond_t hc h
      refine AW.skip <| AW.seq <| AW.block ?_
      obtain ⟨j13, hj13, h⟩ := bsome h
      obtain ⟨j14, hj14, h⟩ := bsome h
      obtain ⟨x15, hx15, h⟩ := bsome h
      obtain ⟨j16, hj16, h⟩ := bsome h
      obtain ⟨x17, hx17, h⟩ := bsome h
      obtain ⟨j18, hj18, h⟩ := bsome h
      obtain ⟨j19, hj19, h⟩ := bsome h
      obtain ⟨x20, hx20, h⟩ := bsome h
      obtain ⟨j21, hj21, h⟩ := bsome h
      refine AW.regionAny [⟨[5], [14], [], []⟩, ⟨[5], [15], [], []⟩, ⟨[2, 15], [16], [], []⟩, ⟨[16], [17], [], []⟩, ⟨[17], [18], [3], []⟩, ⟨[5], [19], [], []⟩, ⟨[3, 19], [20], [], []⟩, ⟨[20], [21], [], []⟩, ⟨[21], [22], [4], []⟩, ⟨[18, 22], [23], [], []⟩, ⟨[5], [24], [], []⟩, ⟨[3, 24], [25], [], []⟩, ⟨[25], [26], [], []⟩, ⟨[26], [27], [4], []⟩, ⟨[23, 27], [28], [], []⟩, ⟨[5], [29], [], []⟩, ⟨[2, 29], [30], [], []⟩, ⟨[30], [31], [], []⟩, ⟨[31], [32], [3], []⟩, ⟨[5], [33], [], []⟩, ⟨[3, 33], [34], [], []⟩, ⟨[34], [35], [], []⟩, ⟨[35], [36], [4], []⟩, ⟨[32, 36], [37], [], []⟩, ⟨[28, 37], [38], [], []⟩, ⟨[2, 14], [39], [], []⟩, ⟨[39, 38], [], [3], [3]⟩] mixed (by kernel_rfl) <| SMd rfl <| SMd rfl <| Sc (lo [2, 15] [] rfl fun S hs hr => op_index' rfl rfl ar101 (vh hs 2 rfl rfl) (vh hs 15 rfl rfl) hj13) rfl <| SFd lTern_0 fl85_0 rfl <| SLd ty42 3 rfl <| SMd rfl <| Sc (lo [3, 19] [] rfl fun S hs hr => op_index' rfl rfl ar101 (vh hs 3 rfl rfl) (vh hs 19 rfl rfl) hj14) rfl <| SFd lTern_1 fl85_1 rfl <| SLd ty42 4 rfl <| SCl [18, 22] (c_r02_Less _ _ _ hx15) e188 rfl <| SMd rfl <| Sc (lo [3, 24] [] rfl fun S hs hr => op_index' rfl rfl ar101 (vh hs 3 rfl rfl) (vh hs 24 rfl rfl) hj16) rfl <| SFd lTern_0 fl85_0 rfl <| SLd ty42 4 rfl <| SCl [23, 27] (c_r02_Or _ _ _ hx17) e187 rfl <| SMd rfl <| Sc (lo [2, 29] [] rfl fun S hs hr => op_index' rfl rfl ar101 (vh hs 2 rfl rfl) (vh hs 29 rfl rfl) hj18) rfl <| SFd lTern_1 fl85_1 rfl <| SLd ty42 3 rfl <| SMd rfl <| Sc (lo [3, 33] [] rfl fun S hs hr => op_index' rfl rfl ar101 (vh hs 3 rfl rfl) (vh hs 33 rfl rfl) hj19) rfl <| SFd lTern_1 fl85_1 rfl <| SLd ty42 4 rfl <| SCl [32, 36] (c_r02_Or _ _ _ hx20) e187 rfl <| Sc (lo [28, 37] [] rfl fun S hs hr => op_build (ps := [(0, .tmp 28), (1, .tmp 37)]) (x := (⟨x17, x20⟩ : Tern)) rfl rfl rfl (by kernel_rfl) zr85 ⟨_, _, lTern_0, _, by kernel_rfl, (vh hs 28 rfl rfl), _, _, lTern_1, _, by kernel_rfl, (vh hs 37 rfl rfl), rfl⟩) rfl <| Sc (lo [2, 14] [] rfl fun S hs hr => op_index' rfl rfl ar101 (vh hs 2 rfl rfl) (vh hs 14 rfl rfl) hj21) rfl <| SSt ty85 3 rfl <| Rg <| Md rfl <| Ac (op_add rfl rfl (vt rfl) (vk rfl)) rfl <| As rfl <| Nl ?_
      subst hgo1
      exact ⟨(m12, (Vector.set b10 j21.1 (⟨x17, x20⟩ : Tern) j21.2), (IntKind.i64.wrap (f11 + 1))), Nat.lt_succ_self _, ⟨trivial, h⟩, ⟨rfl, ⟨rfl, rfl, rfl, rfl, trivial⟩, ⟨rfl, rfl, rfl, trivial⟩⟩⟩
    · have h := cond_f hc h
      refine AW.exit <| SR <| Ld ty101 3 rfl <| Sto ty101 5 rfl <| Nl <| AW.ret ?_
      obtain rfl := si h
      exact ret1 Tryz.results226 rfl (out_cell rfl (i := 5) rfl ty101)
def F_r09_Set_j1 (r1 : (Vector Tern 24)) (b10 : (Vector Tern 24)) : Option (Vector Tern 24) :=
  (F_r09_Then r1 b10).bind fun x11 => some x11
def F_r09_Set (r1 : (Vector Tern 24)) (f2 : Int) (value3 : Wide) (mask4 : Wide) : Option (Vector Tern 24) :=
  (F_r03_Right f2).bind fun x12 => (bif x12 then (chk 24 f2).bind fun j13 => F_r09_Set_j1 r1 (Vector.set (Vector.replicate 24 zTern) j13.1 (⟨value3, mask4⟩ : Tern) j13.2) else F_r09_Set_j1 r1 (Vector.replicate 24 zTern))
theorem c_r09_Set (r1 : (Vector Tern 24)) (f2 : Int) (value3 : Wide) (mask4 : Wide) (r : (Vector Tern 24)) (h : F_r09_Set r1 f2 value3 mask4 = some r) : PCon Tryz.prog 154 [rd (karr 24 kTern) r1, rd (kint .i64) f2, rd kWide value3, rd kWide mask4] (rd (karr 24 kTern) r) := by
  refine PCon.of (Con.intro0 Tryz.func154 rfl Tryz.ntmps154 rfl fun w H => ?_)
  unfold F_r09_Set at h
  refine SR <| Ct rfl (op_box 5 rfl rfl (vt rfl)) ?_
  rintro _ ⟨g5, rfl⟩
  refine Ct rfl (op_box 7 rfl rfl (vt rfl)) ?_
  rintro _ ⟨g6, rfl⟩
  refine Ct rfl (op_box 8 rfl rfl (vt rfl)) ?_
  rintro _ ⟨g7, rfl⟩
  refine Ct rfl (op_alloc 9 rfl rfl zr101) ?_
  rintro _ ⟨g8, rfl⟩
  refine Nl <| SR <| Ac (op_build (ps := []) (x := (Vector.replicate 24 zTern)) rfl rfl rfl (by kernel_rfl) zr101 rfl) rfl <| Ct rfl (op_alloc 10 rfl rfl zr101) ?_
  rintro _ ⟨g9, rfl⟩
  refine Sto ty101 10 rfl <| Nl ?_
  refine AW.join (d := []) (ν := (Vector Tern 24)) (fun n => F_r09_Set_j1 r1 n = some r) (fun n => [(4, ptrL g5 (Lens.id (karr 24 kTern))), (8, ptrL g8 (Lens.id (karr 24 kTern))), (9, ptrL g9 (Lens.id (karr 24 kTern)))]) (fun n => [(5, Blk g5 101 (karr 24 kTern) r1), (9, Blk g8 101 (karr 24 kTern) (Vector.replicate 24 zTern)), (10, Blk g9 101 (karr 24 kTern) n)]) ?hx1 ?hy1
  case hy1 =>
    intro b10 h
    unfold F_r09_Set_j1 at h
    change AW _ _ _ ⟨slots [(4, ptrL g5 (Lens.id (karr 24 kTern))), (8, ptrL g8 (Lens.id (karr 24 kTern))), (9, ptrL g9 (Lens.id (karr 24 kTern)))], ress [(5, Blk g5 101 (karr 24 kTern) r1), (9, Blk g8 101 (karr 24 kTern) (Vector.replicate 24 zTern)), (10, Blk g9 101 (karr 24 kTern) b10)], _⟩
    refine AW.seq ?_
    obtain ⟨x11, hx11, h⟩ := bsome h
    refine Rg <| Ld ty101 5 rfl <| Ld ty101 10 rfl <| Cl [18, 19] (c_r09_Then _ _ _ hx11) e226 rfl <| Sto ty101 9 rfl <| Nl <| AW.ret ?_
    obtain rfl := si h
    exact ret1 Tryz.results154 rfl (out_cell rfl (i := 9) rfl ty101)
  case hx1 =>
    refine AW.seq ?_
    obtain ⟨x12, hx12, h⟩ := bsome h
    refine Rg <| Md rfl <| Cl [11] (c_r03_Right _ _ hx12) e225 rfl <| Nl <| Cn rfl (fun hc => ?_) (fun hc => ?_)
    · have h := cond_t hc h
      obtain ⟨j13, hj13, h⟩ := bsome h
      refine Rg <| Md rfl <| Ld ty42 7 rfl <| Ld ty42 8 rfl <| Ac (op_build (ps := [(0, .tmp 14), (1, .tmp 15)]) (x := (⟨value3, mask4⟩ : Tern)) rfl rfl rfl (by kernel_rfl) zr85 ⟨_, _, lTern_0, _, by kernel_rfl, (vt rfl), _, _, lTern_1, _, by kernel_rfl, (vt rfl), rfl⟩) rfl <| Ac (op_index' rfl rfl ar101 (vt rfl) (vt rfl) hj13) rfl <| Sto ty85 10 rfl <| Nl ?_
      exact ⟨(Vector.set (Vector.replicate 24 zTern) j13.1 (⟨value3, mask4⟩ : Tern) j13.2), h, ⟨rfl, ⟨rfl, rfl, rfl, trivial⟩, ⟨rfl, rfl, rfl, trivial⟩⟩⟩
    · have h := cond_f hc h
      refine AW.skip ?_
      exact ⟨(Vector.replicate 24 zTern), h, ⟨rfl, ⟨rfl, rfl, rfl, trivial⟩, ⟨rfl, rfl, rfl, trivial⟩⟩⟩
def F_r28_Rewrite (a1 : Action) : Option (Vector Tern 24) :=
  (bif (decide (a1.Kind = 25)) then (F_r10_Tern a1.Oxm).bind fun x4 => (F_r09_None).bind fun x6 => (F_r09_Set x6 a1.Oxm.Field x4.Value x4.Mask).bind fun x7 => some x7 else (bif (decide (a1.Kind = 17)) then (F_r09_None).bind fun x8 => (F_r02_Bit 12).bind fun x9 => (F_r02_Bit 12).bind fun x10 => (F_r09_Set x8 5 x9 x10).bind fun x11 => some x11 else (bif (decide (a1.Kind = 18)) then (F_r09_None).bind fun x12 => (F_r02_Low 13).bind fun x13 => (F_r09_Set x12 5 (⟨0, 0⟩ : Wide) x13).bind fun x14 => (F_r02_Low 3).bind fun x16 => (F_r09_Set x14 6 (⟨0, 0⟩ : Wide) x16).bind fun x17 => some x17 else (F_r09_None).bind fun x18 => some x18)))
theorem c_r28_Rewrite (a1 : Action) (r : (Vector Tern 24)) (h : F_r28_Rewrite a1 = some r) : PCon Tryz.prog 272 [rd kAction a1] (rd (karr 24 kTern) r) := by
  refine PCon.of (Con.intro0 Tryz.func272 rfl Tryz.ntmps272 rfl fun w H => ?_)
  unfold F_r28_Rewrite at h
  refine SR <| Ct rfl (op_box 2 rfl rfl (vt rfl)) ?_
  rintro _ ⟨g2, rfl⟩
  refine Ct rfl (op_alloc 3 rfl rfl zr101) ?_
  rintro _ ⟨g3, rfl⟩
  refine Nl <| AW.seq <| SR <| FdA lAction_0 fl121_0 rfl <| Ld ty3 2 rfl <| Nl <| AW.block <| SR <| Ac (op_eql rfl rfl (vt rfl) (vk rfl)) rfl <| As rfl <| Nl <| Cn rfl (fun hc => ?_) (fun hc => ?_)
  · have h := cond_t hc h
    refine AW.seq ?_
    obtain ⟨x4, hx4, h⟩ := bsome h
    refine Rg <| FdA lAction_5 fl121_5 rfl <| Ld ty119 2 rfl <| Cl [10] (c_r10_Tern _ _ hx4) e271 rfl <| Ct rfl (op_alloc 4 rfl rfl zr85) ?_
    rintro _ ⟨g5, rfl⟩
    refine Sto ty85 4 rfl <| Nl <| AW.seq ?_
    obtain ⟨x6, hx6, h⟩ := bsome h
    obtain ⟨x7, hx7, h⟩ := bsome h
    refine AW.regionAny [⟨[], [12], [], []⟩, ⟨[1], [13], [], []⟩, ⟨[13], [14], [], []⟩, ⟨[14], [15], [2], []⟩, ⟨[3], [16], [], []⟩, ⟨[16], [17], [4], []⟩, ⟨[3], [18], [], []⟩, ⟨[18], [19], [4], []⟩, ⟨[12, 15, 17, 19], [20], [], []⟩, ⟨[2, 20], [], [3], [3]⟩] mixed (by kernel_rfl) <| SCl [] (c_r09_None _ hx6) e80 rfl <| SFd lAction_5 fl121_5 rfl <| SFd lOxm_0 fl119_0 rfl <| SLd ty3 2 rfl <| SFd lTern_0 fl85_0 rfl <| SLd ty42 4 rfl <| SFd lTern_1 fl85_1 rfl <| SLd ty42 4 rfl <| SCl [12, 15, 17, 19] (c_r09_Set _ _ _ _ _ hx7) e154 rfl <| SSt ty101 3 rfl <| AW.ret ?_
    obtain rfl := si h
    exact ret1 Tryz.results272 rfl (out_cell rfl (i := 3) rfl ty101)
  · have h := cond_f hc h
    refine SR <| Ac (op_eql rfl rfl (vt rfl) (vk rfl)) rfl <| As rfl <| Nl <| Cn rfl (fun hc => ?_) (fun hc => ?_)
    · have h := cond_t hc h
      refine AW.seq ?_
      obtain ⟨x8, hx8, h⟩ := bsome h
      obtain ⟨x9, hx9, h⟩ := bsome h
      obtain ⟨x10, hx10, h⟩ := bsome h
      obtain ⟨x11, hx11, h⟩ := bsome h
      refine Rg <| Cl [] (c_r09_None _ hx8) e80 rfl <| Ac (op_call (xs := [.const (Value.int IntKind.i64 12)]) (c_r02_Bit _ _ hx9) e309 rfl rfl ⟨vk rfl, trivial⟩) rfl <| Ac (op_call (xs := [.const (Value.int IntKind.i64 12)]) (c_r02_Bit _ _ hx10) e309 rfl rfl ⟨vk rfl, trivial⟩) rfl <| Ac (op_call (xs := [.tmp 23, .const (Value.int IntKind.i64 5), .tmp 24, .tmp 25]) (c_r09_Set _ _ _ _ _ hx11) e154 rfl rfl ⟨vt rfl, vk rfl, vt rfl, vt rfl, trivial⟩) rfl <| Sto ty101 3 rfl <| Nl <| AW.ret ?_
      obtain rfl := si h
      exact ret1 Tryz.results272 rfl (out_cell rfl (i := 3) rfl ty101)
    · have h := cond_f hc h
      refine SR <| Ac (op_eql rfl rfl (vt rfl) (vk rfl)) rfl <| As rfl <| Nl <| Cn rfl (fun hc => ?_) (fun hc => ?_)
      · have h := cond_t hc h
        refine AW.seq ?_
        obtain ⟨x12, hx12, h⟩ := bsome h
        obtain ⟨x13, hx13, h⟩ := bsome h
        obtain ⟨x14, hx14, h⟩ := bsome h
        refine Rg <| Cl [] (c_r09_None _ hx12) e80 rfl <| Ac (op_build (ps := []) (x := (⟨0, 0⟩ : Wide)) rfl rfl rfl (by kernel_rfl) zr42 rfl) rfl <| Ac (op_call (xs := [.const (Value.int IntKind.i64 13)]) (c_r02_Low _ _ hx13) e307 rfl rfl ⟨vk rfl, trivial⟩) rfl <| Ac (op_call (xs := [.tmp 29, .const (Value.int IntKind.i64 5), .tmp 30, .tmp 31]) (c_r09_Set _ _ _ _ _ hx14) e154 rfl rfl ⟨vt rfl, vk rfl, vt rfl, vt rfl, trivial⟩) rfl <| Ct rfl (op_alloc 5 rfl rfl zr101) ?_
        rintro _ ⟨g15, rfl⟩
        refine Sto ty101 5 rfl <| Nl <| AW.seq ?_
        obtain ⟨x16, hx16, h⟩ := bsome h
        obtain ⟨x17, hx17, h⟩ := bsome h
        refine AW.regionAny [⟨[4], [33], [5], []⟩, ⟨[], [34], [], []⟩, ⟨[], [35], [], []⟩, ⟨[33, 34, 35], [36], [], []⟩, ⟨[2, 36], [], [3], [3]⟩] mixed (by kernel_rfl) <| SLd ty101 5 rfl <| Sc (lo [] [] rfl fun S hs hr => op_build (ps := []) (x := (⟨0, 0⟩ : Wide)) rfl rfl rfl (by kernel_rfl) zr42 rfl) rfl <| Sc (lo [] [] rfl fun S hs hr => op_call (xs := [.const (Value.int IntKind.i64 3)]) (c_r02_Low _ _ hx16) e307 rfl rfl ⟨vk rfl, trivial⟩) rfl <| Sc (lo [33, 34, 35] [] rfl fun S hs hr => op_call (xs := [.tmp 33, .const (Value.int IntKind.i64 6), .tmp 34, .tmp 35]) (c_r09_Set _ _ _ _ _ hx17) e154 rfl rfl ⟨vt ((hs 33 rfl).trans rfl), vk rfl, vt ((hs 34 rfl).trans rfl), vt ((hs 35 rfl).trans rfl), trivial⟩) rfl <| SSt ty101 3 rfl <| AW.ret ?_
        obtain rfl := si h
        exact ret1 Tryz.results272 rfl (out_cell rfl (i := 3) rfl ty101)
      · have h := cond_f hc h
        refine AW.skip <| AW.seq ?_
        obtain ⟨x18, hx18, h⟩ := bsome h
        refine Rg <| Cl [] (c_r09_None _ hx18) e80 rfl <| Sto ty101 3 rfl <| Nl <| AW.ret ?_
        obtain rfl := si h
        exact ret1 Tryz.results272 rfl (out_cell rfl (i := 3) rfl ty101)
def F_r30_deep_s_j2 (l15 : (List Out)) (go1 : (Vector Wide 24) → (List Out) → Int → Option ((List Out) × (Vector Wide 24))) (b14 : (Vector Wide 24)) (i17 : Int) (b22 : Out) : Option ((List Out) × (Vector Wide 24)) :=
  (appd l15 [b22]).bind fun l23 => go1 b14 l23 (IntKind.i64.wrap (i17 + 1))
def F_r30_deep_s_l1 (acts3 : (List Action)) (R_r30_group : ((List Group) → Env → Int → (Vector Wide 24) → Int → Option (List Out))) (l1 : (List Group)) (e2 : Env) (depth5 : Int) : Nat → (Vector Wide 24) → (List Out) → Int → Option ((List Out) × (Vector Wide 24))
  | 0, _, _, _ => none
  | m18 + 1, b14, l15, i17 => (bif (decide (i17 < (acts3.length : Int))) then (lget acts3 i17).bind fun e19 => (bif (decide (e19.Kind = 0)) then (lget acts3 i17).bind fun e20 => (bif (decide (((⟨e20.Port, 0, b14⟩ : Out).Port) = 4294967293)) then (lget acts3 i17).bind fun e25 => F_r30_deep_s_j2 l15 (F_r30_deep_s_l1 acts3 R_r30_group l1 e2 depth5 m18) b14 i17 { (⟨e20.Port, 0, b14⟩ : Out) with Max := e25.Max } else F_r30_deep_s_j2 l15 (F_r30_deep_s_l1 acts3 R_r30_group l1 e2 depth5 m18) b14 i17 (⟨e20.Port, 0, b14⟩ : Out)) else (bif (decide (e19.Kind = 22)) then (lget acts3 i17).bind fun e26 => (R_r30_group l1 e2 e26.Group b14 (IntKind.i64.wrap (depth5 + 1))).bind fun x27 => (appd l15 x27).bind fun l28 => (F_r30_deep_s_l1 acts3 R_r30_group l1 e2 depth5 m18) b14 l28 (IntKind.i64.wrap (i17 + 1)) else (lget acts3 i17).bind fun e30 => (F_r28_Rewrite e30).bind fun x31 => (F_r09_Apply x31 b14).bind fun x32 => (F_r30_deep_s_l1 acts3 R_r30_group l1 e2 depth5 m18) x32 l15 (IntKind.i64.wrap (i17 + 1)))) else some (l15, b14))
def F_r30_deep_s (R_r30_deep : ((List Group) → Env → (List Action) → (Vector Wide 24) → Int → Option ((List Out) × (Vector Wide 24)))) (R_r30_group : ((List Group) → Env → Int → (Vector Wide 24) → Int → Option (List Out))) (l1 : (List Group)) (e2 : Env) (acts3 : (List Action)) (h4 : (Vector Wide 24)) (depth5 : Int) : Option ((List Out) × (Vector Wide 24)) :=
  F_r30_deep_s_l1 acts3 R_r30_group l1 e2 depth5 ((((acts3.length : Int) : Int) - 0).toNat + 1) h4 [] 0
theorem c_r30_deep_s (R_r30_deep : ((List Group) → Env → (List Action) → (Vector Wide 24) → Int → Option ((List Out) × (Vector Wide 24)))) (hR_r30_deep : ∀ (l1 : (List Group)) (e2 : Env) (acts3 : (List Action)) (h4 : (Vector Wide 24)) (depth5 : Int) (r : ((List Out) × (Vector Wide 24))), R_r30_deep l1 e2 acts3 h4 depth5 = some r → PCon Tryz.prog 223 [rd (ksl kGroup) l1, rd kEnv e2, rd (ksl kAction) acts3, rd (karr 24 kWide) h4, rd (kint .i64) depth5] (tup2 (rd (ksl kOut) r.1) (rd (karr 24 kWide) r.2))) (R_r30_group : ((List Group) → Env → Int → (Vector Wide 24) → Int → Option (List Out))) (hR_r30_group : ∀ (l1 : (List Group)) (e2 : Env) (id3 : Int) (h4 : (Vector Wide 24)) (depth5 : Int) (r : (List Out)), R_r30_group l1 e2 id3 h4 depth5 = some r → PCon Tryz.prog 234 [rd (ksl kGroup) l1, rd kEnv e2, rd (kint .i64) id3, rd (karr 24 kWide) h4, rd (kint .i64) depth5] (rd (ksl kOut) r)) (l1 : (List Group)) (e2 : Env) (acts3 : (List Action)) (h4 : (Vector Wide 24)) (depth5 : Int) (r : ((List Out) × (Vector Wide 24))) (h : F_r30_deep_s R_r30_deep R_r30_group l1 e2 acts3 h4 depth5 = some r) : PCon Tryz.prog 223 [rd (ksl kGroup) l1, rd kEnv e2, rd (ksl kAction) acts3, rd (karr 24 kWide) h4, rd (kint .i64) depth5] (tup2 (rd (ksl kOut) r.1) (rd (karr 24 kWide) r.2)) := by
  refine PCon.of (Con.intro0 Tryz.func223 rfl Tryz.ntmps223 rfl fun w H => ?_)
  unfold F_r30_deep_s at h
  refine SR <| Ct rfl (op_box 7 rfl rfl (vt rfl)) ?_
  rintro _ ⟨g6, rfl⟩
  refine Ct rfl (op_box 9 rfl rfl (vt rfl)) ?_
  rintro _ ⟨g7, rfl⟩
  refine Ac (op_assign (A := rd (ksl kOut) []) rfl rfl vnil) rfl <| Ct rfl (op_alloc 12 rfl rfl zr44) ?_
  rintro _ ⟨g8, rfl⟩
  refine Nl <| SR <| Ct rfl (op_buildSlice 1001 (ps := []) (l := []) rfl rfl sl46 zr71 rfl rfl rfl rfl) ?_
  rintro _ ⟨v9, rfl⟩
  refine Aw rfl <| Nl <| AW.seq <| SR <| Ak rfl <| Nl <| AW.block <| AW.loopG (d := []) (ν := Nat × (Vector Wide 24) × (List Out) × Int × Value) (fun n => True ∧ F_r30_deep_s_l1 acts3 R_r30_group l1 e2 depth5 n.1 n.2.1 n.2.2.1 n.2.2.2.1 = some r) (fun n => n.1) (fun n => [(0, rd (ksl kGroup) l1), (2, rd (ksl kAction) acts3), (4, rd (kint .i64) depth5), (6, ptrL g6 (Lens.id kEnv)), (8, ptrL g7 (Lens.id (karr 24 kWide))), (11, ptrL g8 (Lens.id (karr 24 kWide))), (12, raw n.2.2.2.2), (13, rd (kint .i64) n.2.2.2.1)]) (fun n => [(7, Blk g6 39 kEnv e2), (9, Blk g7 44 (karr 24 kWide) n.2.1), (12, Blk g8 44 (karr 24 kWide) (Vector.replicate 24 zWide)), (1001, Row n.2.2.2.2 71 kOut n.2.2.1)]) (((((acts3.length : Int) : Int) - 0).toNat + 1), h4, [], 0, v9) ⟨trivial, h⟩ ⟨rfl, ⟨rfl, rfl, rfl, rfl, rfl, rfl, rfl, rfl, trivial⟩, ⟨rfl, rfl, rfl, rfl, trivial⟩⟩ ?_
  rintro ⟨m18, b14, l15, i17, v16⟩ ⟨hsf1, h⟩
  change True at hsf1
  change F_r30_deep_s_l1 acts3 R_r30_group l1 e2 depth5 m18 b14 l15 i17 = some r at h
  change AW _ _ _ ⟨slots [(0, rd (ksl kGroup) l1), (2, rd (ksl kAction) acts3), (4, rd (kint .i64) depth5), (6, ptrL g6 (Lens.id kEnv)), (8, ptrL g7 (Lens.id (karr 24 kWide))), (11, ptrL g8 (Lens.id (karr 24 kWide))), (12, raw v16), (13, rd (kint .i64) i17)], ress [(7, Blk g6 39 kEnv e2), (9, Blk g7 44 (karr 24 kWide) b14), (12, Blk g8 44 (karr 24 kWide) (Vector.replicate 24 zWide)), (1001, Row v16 71 kOut l15)], _⟩
  cases m18 with
  | zero => cases h
  | succ m18 =>
    unfold F_r30_deep_s_l1 at h
    generalize hgo1 : F_r30_deep_s_l1 acts3 R_r30_group l1 e2 depth5 m18 = go1 at h
    refine AW.seq <| SR <| Md rfl <| Md rfl <| Ac (op_len' rfl rfl sl122 (vt rfl)) rfl <| Ac (op_lss rfl rfl (vt rfl) (vt rfl)) rfl <| Nl <| Cn rfl (fun hc => ?_) (fun hc => ?_)
    · have h := cond_t hc h
      refine AW.skip <| AW.seq <| AW.block <| AW.seq ?_
      obtain ⟨e19, he19, h⟩ := bsome h
      refine Rg <| Md rfl <| Md rfl <| Ac (op_indexs' rfl rfl sl122 (vt rfl) (vt rfl) he19) rfl <| Fp lAction_0 fl121_0 rfl <| Lp1 ty3 rfl <| Nl <| AW.block <| SR <| Ac (op_eql rfl rfl (vt rfl) (vk rfl)) rfl <| As rfl <| Nl <| Cn rfl (fun hc => ?_) (fun hc => ?_)
      · have h := cond_t hc h
        refine AW.seq ?_
        obtain ⟨e20, he20, h⟩ := bsome h
        refine AW.regionAny [⟨[2], [36], [], []⟩, ⟨[13], [37], [], []⟩, ⟨[36, 37], [38], [], []⟩, ⟨[38], [39], [], []⟩, ⟨[39], [40], [], []⟩, ⟨[8], [41], [9], []⟩, ⟨[40, 41], [42], [], []⟩, ⟨[], [14], [], []⟩, ⟨[14, 42], [14], [], []⟩] mixed (by kernel_rfl) <| SMd rfl <| SMd rfl <| Sc (lo [36, 37] [] rfl fun S hs hr => op_indexs' rfl rfl sl122 (vh hs 36 rfl rfl) (vh hs 37 rfl rfl) he20) rfl <| SFp lAction_1 fl121_1 rfl <| SLp ty3 rfl <| SLd ty44 9 rfl <| Sc (lo [40, 41] [] rfl fun S hs hr => op_build (ps := [(0, .tmp 40), (2, .tmp 41)]) (x := (⟨e20.Port, 0, b14⟩ : Out)) rfl rfl rfl (by kernel_rfl) zr71 ⟨_, _, lOut_0, _, by kernel_rfl, (vh hs 40 rfl rfl), _, _, lOut_2, _, by kernel_rfl, (vh hs 41 rfl rfl), rfl⟩) rfl <| Sc (locs (us := [(14, ownP 71 kOut zOut)]) (ur := []) [] [] rfl fun S hs hr => op_allocO rfl rfl rfl zr71) rfl <| Sc (locs (us := [(14, ownP 71 kOut (⟨e20.Port, 0, b14⟩ : Out))]) (ur := []) [14, 42] [] rfl fun S hs hr => op_storeO rfl rfl ty71 ((hs 14 rfl).trans rfl) (vh hs 42 rfl rfl)) rfl <| AW.unpackP 14 15 rfl rfl fun g21 => ?_
        refine AW.join (d := []) (ν := Out) (fun n => F_r30_deep_s_j2 l15 go1 b14 i17 n = some r) (fun n => [(0, rd (ksl kGroup) l1), (2, rd (ksl kAction) acts3), (4, rd (kint .i64) depth5), (6, ptrL g6 (Lens.id kEnv)), (8, ptrL g7 (Lens.id (karr 24 kWide))), (11, ptrL g8 (Lens.id (karr 24 kWide))), (12, raw v16), (13, rd (kint .i64) i17), (14, ptrL g21 (Lens.id kOut))]) (fun n => [(7, Blk g6 39 kEnv e2), (9, Blk g7 44 (karr 24 kWide) b14), (12, Blk g8 44 (karr 24 kWide) (Vector.replicate 24 zWide)), (15, Blk g21 71 kOut n), (1001, Row v16 71 kOut l15)]) ?hx2 ?hy2
        case hy2 =>
          intro b22 h
          unfold F_r30_deep_s_j2 at h
          change AW _ _ _ ⟨slots [(0, rd (ksl kGroup) l1), (2, rd (ksl kAction) acts3), (4, rd (kint .i64) depth5), (6, ptrL g6 (Lens.id kEnv)), (8, ptrL g7 (Lens.id (karr 24 kWide))), (11, ptrL g8 (Lens.id (karr 24 kWide))), (12, raw v16), (13, rd (kint .i64) i17), (14, ptrL g21 (Lens.id kOut))], ress [(7, Blk g6 39 kEnv e2), (9, Blk g7 44 (karr 24 kWide) b14), (12, Blk g8 44 (karr 24 kWide) (Vector.replicate 24 zWide)), (15, Blk g21 71 kOut b22), (1001, Row v16 71 kOut l15)], _⟩
          obtain ⟨l23, hl23, h⟩ := bsome h
          refine Rg <| Mw rfl <| Ld ty71 15 rfl <| Ac (op_buildSliceR (ps := [(0, .tmp 53)]) (l := [b22]) rfl rfl sl46 zr71 rfl rfl ⟨_, _, Lens.idx 1 kOut 0 (by decide), _, rfl, (vt rfl), rfl⟩ rfl) rfl <| Ct rfl (op_append' 1001 hl23 rfl rfl el46 (vt rfl) rfl (vt rfl)) ?_
          rintro _ ⟨v24, rfl⟩
          refine Aw rfl <| Nl <| Rg <| Md rfl <| Ac (op_add rfl rfl (vt rfl) (vk rfl)) rfl <| As rfl <| Nl ?_
          subst hgo1
          exact ⟨(m18, b14, l23, (IntKind.i64.wrap (i17 + 1)), v24), Nat.lt_succ_self _, ⟨trivial, h⟩, ⟨rfl, ⟨rfl, rfl, rfl, rfl, rfl, rfl, rfl, rfl, trivial⟩, ⟨rfl, rfl, rfl, rfl, trivial⟩⟩⟩
        case hx2 =>
          refine SR <| FdA lOut_0 fl71_0 rfl <| Ld ty3 15 rfl <| Ac (op_eql rfl rfl (vt rfl) (vk rfl)) rfl <| Nl <| Cn rfl (fun hc => ?_) (fun hc => ?_)
          · have h := cond_t hc h
            obtain ⟨e25, he25, h⟩ := bsome h
            refine Rg <| Md rfl <| Md rfl <| Ac (op_indexs' rfl rfl sl122 (vt rfl) (vt rfl) he25) rfl <| Fp lAction_2 fl121_2 rfl <| Lp1 ty3 rfl <| FdA lOut_1 fl71_1 rfl <| Sto ty3 15 rfl <| Nl ?_
            exact ⟨{ (⟨e20.Port, 0, b14⟩ : Out) with Max := e25.Max }, h, ⟨rfl, ⟨rfl, rfl, rfl, rfl, rfl, rfl, rfl, rfl, rfl, trivial⟩, ⟨rfl, rfl, rfl, rfl, rfl, trivial⟩⟩⟩
          · have h := cond_f hc h
            refine AW.skip ?_
            exact ⟨(⟨e20.Port, 0, b14⟩ : Out), h, ⟨rfl, ⟨rfl, rfl, rfl, rfl, rfl, rfl, rfl, rfl, rfl, trivial⟩, ⟨rfl, rfl, rfl, rfl, rfl, trivial⟩⟩⟩
      · have h := cond_f hc h
        refine SR <| Ac (op_eql rfl rfl (vt rfl) (vk rfl)) rfl <| As rfl <| Nl <| Cn rfl (fun hc => ?_) (fun hc => ?_)
        · have h := cond_t hc h
          obtain ⟨e26, he26, h⟩ := bsome h
          obtain ⟨x27, hx27, h⟩ := bsome h
          obtain ⟨l28, hl28, h⟩ := bsome h
          refine AW.regionAny [⟨[12], [58], [], []⟩, ⟨[0], [59], [], []⟩, ⟨[6], [60], [7], []⟩, ⟨[2], [61], [], []⟩, ⟨[13], [62], [], []⟩, ⟨[61, 62], [63], [], []⟩, ⟨[63], [64], [], []⟩, ⟨[64], [65], [], []⟩, ⟨[8], [66], [9], []⟩, ⟨[4], [67], [], []⟩, ⟨[67], [68], [], []⟩, ⟨[59, 60, 65, 66, 68], [69], [], []⟩, ⟨[58, 69], [70], [1001], [1001]⟩, ⟨[70], [70, 12], [1002], []⟩] mixed (by kernel_rfl) <| SMw rfl <| SMd rfl <| SLd ty39 7 rfl <| SMd rfl <| SMd rfl <| Sc (lo [61, 62] [] rfl fun S hs hr => op_indexs' rfl rfl sl122 (vh hs 61 rfl rfl) (vh hs 62 rfl rfl) he26) rfl <| SFp lAction_3 fl121_3 rfl <| SLp ty3 rfl <| SLd ty44 9 rfl <| SMd rfl <| Sc (lo [67] [] rfl fun S hs hr => op_add rfl rfl (vh hs 67 rfl rfl) (vk rfl)) rfl <| SCl [59, 60, 65, 66, 68] (hR_r30_group _ _ _ _ _ _ hx27) e234 rfl <| Sc (locs (us := [(70, ownR 71 kOut l28)]) (ur := [(1001, emp)]) [58, 69] [1001] rfl fun S hs hr => op_appendO 1001 hl28 rfl rfl rfl el46 (vh hs 58 rfl rfl) ((hr 1001 rfl).trans rfl) (vh hs 69 rfl rfl)) rfl <| Sc (locs (us := [(70, top), (12, ownR 71 kOut l28)]) (ur := []) [70] [1002] rfl fun S hs hr => op_assignO 1002 rfl rfl rfl rfl ((hs 70 rfl).trans rfl) ((hr 1002 rfl).trans rfl)) rfl <| AW.unpackR 12 1001 rfl rfl fun v29 => Rg <| Md rfl <| Ac (op_add rfl rfl (vt rfl) (vk rfl)) rfl <| As rfl <| Nl ?_
          subst hgo1
          exact ⟨(m18, b14, l28, (IntKind.i64.wrap (i17 + 1)), v29), Nat.lt_succ_self _, ⟨trivial, h⟩, ⟨rfl, ⟨rfl, rfl, rfl, rfl, rfl, rfl, rfl, rfl, trivial⟩, ⟨rfl, rfl, rfl, rfl, trivial⟩⟩⟩
        · have h := cond_f hc h
          obtain ⟨e30, he30, h⟩ := bsome h
          obtain ⟨x31, hx31, h⟩ := bsome h
          obtain ⟨x32, hx32, h⟩ := bsome h
          refine AW.regionAny [⟨[2], [27], [], []⟩, ⟨[13], [28], [], []⟩, ⟨[27, 28], [29], [], []⟩, ⟨[29], [30], [], []⟩, ⟨[30], [31], [], []⟩, ⟨[8], [32], [9], []⟩, ⟨[31, 32], [33], [], []⟩, ⟨[8, 33], [], [9], [9]⟩] mixed (by kernel_rfl) <| SMd rfl <| SMd rfl <| Sc (lo [27, 28] [] rfl fun S hs hr => op_indexs' rfl rfl sl122 (vh hs 27 rfl rfl) (vh hs 28 rfl rfl) he30) rfl <| SLp ty121 rfl <| SCl [30] (c_r28_Rewrite _ _ hx31) e272 rfl <| SLd ty44 9 rfl <| SCl [31, 32] (c_r09_Apply _ _ _ hx32) e119 rfl <| SSt ty44 9 rfl <| Rg <| Md rfl <| Ac (op_add rfl rfl (vt rfl) (vk rfl)) rfl <| As rfl <| Nl ?_
          subst hgo1
          exact ⟨(m18, x32, l15, (IntKind.i64.wrap (i17 + 1)), v16), Nat.lt_succ_self _, ⟨trivial, h⟩, ⟨rfl, ⟨rfl, rfl, rfl, rfl, rfl, rfl, rfl, rfl, trivial⟩, ⟨rfl, rfl, rfl, rfl, trivial⟩⟩⟩
    · have h := cond_f hc h
      refine AW.exit <| AW.seq <| AW.regionAny [⟨[12], [71], [], []⟩, ⟨[8], [72], [9], []⟩, ⟨[71], [10], [], []⟩, ⟨[11, 72], [], [12], [12]⟩] mixed (by kernel_rfl) <| SMw rfl <| SLd ty44 9 rfl <| Sc (lo [71] [] rfl fun S hs hr => op_assign (A := raw v16) rfl rfl (vh hs 71 rfl rfl)) rfl <| SSt ty44 12 rfl <| AW.freezes [10, 12, 71] 1001 rfl ⟨rfl, rfl, rfl, trivial⟩ rfl <| AW.ret ?_
      obtain rfl := si h
      exact ret2 Tryz.results223 rfl (out_tmp rfl) (out_cell rfl (i := 12) rfl ty44)
def F_r30_group_s_l1 (x11 : (List Int)) (x9 : (Group × Bool)) (R_r30_deep : ((List Group) → Env → (List Action) → (Vector Wide 24) → Int → Option ((List Out) × (Vector Wide 24)))) (l1 : (List Group)) (e2 : Env) (h4 : (Vector Wide 24)) (depth5 : Int) : Nat → (List Out) → Int → Option (List Out)
  | 0, _, _ => none
  | m18 + 1, l15, i17 => (bif (decide (i17 < (x11.length : Int))) then (lget x11 i17).bind fun e19 => (lget x9.1.Buckets e19).bind fun e20 => (F_r28_Write [] e20.Acts).bind fun x21 => (F_r28_List x21).bind fun x22 => (R_r30_deep l1 e2 x22 h4 depth5).bind fun x23 => (appd l15 x23.1).bind fun l25 => (F_r30_group_s_l1 x11 x9 R_r30_deep l1 e2 h4 depth5 m18) l25 (IntKind.i64.wrap (i17 + 1)) else some l15)
def F_r30_group_s (R_r30_deep : ((List Group) → Env → (List Action) → (Vector Wide 24) → Int → Option ((List Out) × (Vector Wide 24)))) (R_r30_group : ((List Group) → Env → Int → (Vector Wide 24) → Int → Option (List Out))) (l1 : (List Group)) (e2 : Env) (id3 : Int) (h4 : (Vector Wide 24)) (depth5 : Int) : Option (List Out) :=
  (F_r24_Find l1 id3).bind fun x9 => (bif ((!x9.2) || (decide (depth5 > 8))) then some [] else (F_r29_Takes e2 x9.1).bind fun x11 => F_r30_group_s_l1 x11 x9 R_r30_deep l1 e2 h4 depth5 ((((x11.length : Int) : Int) - 0).toNat + 1) [] 0)
theorem c_r30_group_s (R_r30_deep : ((List Group) → Env → (List Action) → (Vector Wide 24) → Int → Option ((List Out) × (Vector Wide 24)))) (hR_r30_deep : ∀ (l1 : (List Group)) (e2 : Env) (acts3 : (List Action)) (h4 : (Vector Wide 24)) (depth5 : Int) (r : ((List Out) × (Vector Wide 24))), R_r30_deep l1 e2 acts3 h4 depth5 = some r → PCon Tryz.prog 223 [rd (ksl kGroup) l1, rd kEnv e2, rd (ksl kAction) acts3, rd (karr 24 kWide) h4, rd (kint .i64) depth5] (tup2 (rd (ksl kOut) r.1) (rd (karr 24 kWide) r.2))) (R_r30_group : ((List Group) → Env → Int → (Vector Wide 24) → Int → Option (List Out))) (hR_r30_group : ∀ (l1 : (List Group)) (e2 : Env) (id3 : Int) (h4 : (Vector Wide 24)) (depth5 : Int) (r : (List Out)), R_r30_group l1 e2 id3 h4 depth5 = some r → PCon Tryz.prog 234 [rd (ksl kGroup) l1, rd kEnv e2, rd (kint .i64) id3, rd (karr 24 kWide) h4, rd (kint .i64) depth5] (rd (ksl kOut) r)) (l1 : (List Group)) (e2 : Env) (id3 : Int) (h4 : (Vector Wide 24)) (depth5 : Int) (r : (List Out)) (h : F_r30_group_s R_r30_deep R_r30_group l1 e2 id3 h4 depth5 = some r) : PCon Tryz.prog 234 [rd (ksl kGroup) l1, rd kEnv e2, rd (kint .i64) id3, rd (karr 24 kWide) h4, rd (kint .i64) depth5] (rd (ksl kOut) r) := by
  refine PCon.of (Con.intro0 Tryz.func234 rfl Tryz.ntmps234 rfl fun w H => ?_)
  unfold F_r30_group_s at h
  refine SR <| Ct rfl (op_box 7 rfl rfl (vt rfl)) ?_
  rintro _ ⟨g6, rfl⟩
  refine Ct rfl (op_box 9 rfl rfl (vt rfl)) ?_
  rintro _ ⟨g7, rfl⟩
  refine Ac (op_assign (A := rd (ksl kOut) []) rfl rfl vnil) rfl <| Nl <| SR <| Ct rfl (op_buildSlice 1001 (ps := []) (l := []) rfl rfl sl46 zr71 rfl rfl rfl rfl) ?_
  rintro _ ⟨v8, rfl⟩
  refine Aw rfl <| Nl <| AW.seq ?_
  obtain ⟨x9, hx9, h⟩ := bsome h
  refine Rg <| Md rfl <| Md rfl <| Cl [20, 21] (c_r24_Find _ _ _ hx9) e276 rfl <| Mt2 rfl <| Ac (op_fst rfl rfl (vt rfl)) rfl <| Ac (op_snd rfl rfl (vt rfl)) rfl <| Ct rfl (op_alloc 13 rfl rfl zr164) ?_
  rintro _ ⟨g10, rfl⟩
  refine Sto ty164 13 rfl <| As rfl <| Nl <| AW.seq <| SR <| Md rfl <| Ac (op_not rfl rfl (vt rfl)) rfl <| Md rfl <| Gd rfl (fun hq => op_move (A := rd (kint .i64) depth5) rfl rfl (vt rfl)) <| Gd rfl (fun hq => op_gtr rfl rfl (vgt rfl hq) (vk rfl)) <| Ac (op_any rfl rfl (vt rfl) (vt rfl)) rfl <| Nl <| Cn rfl (fun hc => ?_) (fun hc => ?_)
  · have h := cond_t hc h
    refine SR <| Mw rfl <| Aw rfl <| Nl <| AW.freezes [10, 11, 18, 31] 1001 rfl ⟨rfl, rfl, rfl, rfl, trivial⟩ rfl <| AW.ret ?_
    obtain rfl := si h
    exact ret1 Tryz.results234 rfl (out_tmp rfl)
  · have h := cond_f hc h
    refine AW.skip <| AW.seq ?_
    obtain ⟨x11, hx11, h⟩ := bsome h
    refine Rg <| Ld ty39 7 rfl <| Ld ty164 13 rfl <| Cl [32, 33] (c_r29_Takes _ _ _ hx11) e277 rfl <| As rfl <| Nl <| AW.seq <| SR <| Ak rfl <| Nl <| AW.block <| AW.loopG (d := []) (ν := Nat × (List Out) × Int × Value) (fun n => True ∧ F_r30_group_s_l1 x11 x9 R_r30_deep l1 e2 h4 depth5 n.1 n.2.1 n.2.2.1 = some r) (fun n => n.1) (fun n => [(0, rd (ksl kGroup) l1), (4, rd (kint .i64) depth5), (6, ptrL g6 (Lens.id kEnv)), (8, ptrL g7 (Lens.id (karr 24 kWide))), (11, raw n.2.2.2), (12, ptrL g10 (Lens.id kGroup)), (14, rd (ksl (kint .i64)) x11), (15, rd (kint .i64) n.2.2.1)]) (fun n => [(7, Blk g6 39 kEnv e2), (9, Blk g7 44 (karr 24 kWide) h4), (13, Blk g10 164 kGroup x9.1), (1001, Row n.2.2.2 71 kOut n.2.1)]) (((((x11.length : Int) : Int) - 0).toNat + 1), [], 0, v8) ⟨trivial, h⟩ ⟨rfl, ⟨rfl, rfl, rfl, rfl, rfl, rfl, rfl, rfl, trivial⟩, ⟨rfl, rfl, rfl, rfl, trivial⟩⟩ ?_
    rintro ⟨m18, l15, i17, v16⟩ ⟨hsf1, h⟩
    change True at hsf1
    change F_r30_group_s_l1 x11 x9 R_r30_deep l1 e2 h4 depth5 m18 l15 i17 = some r at h
    change AW _ _ _ ⟨slots [(0, rd (ksl kGroup) l1), (4, rd (kint .i64) depth5), (6, ptrL g6 (Lens.id kEnv)), (8, ptrL g7 (Lens.id (karr 24 kWide))), (11, raw v16), (12, ptrL g10 (Lens.id kGroup)), (14, rd (ksl (kint .i64)) x11), (15, rd (kint .i64) i17)], ress [(7, Blk g6 39 kEnv e2), (9, Blk g7 44 (karr 24 kWide) h4), (13, Blk g10 164 kGroup x9.1), (1001, Row v16 71 kOut l15)], _⟩
    cases m18 with
    | zero => cases h
    | succ m18 =>
      unfold F_r30_group_s_l1 at h
      generalize hgo1 : F_r30_group_s_l1 x11 x9 R_r30_deep l1 e2 h4 depth5 m18 = go1 at h
      refine AW.seq <| SR <| Md rfl <| Md rfl <| Ac (op_len' rfl rfl sl37 (vt rfl)) rfl <| Ac (op_lss rfl rfl (vt rfl) (vt rfl)) rfl <| Nl <| Cn rfl (fun hc => ?_) (fun hc => ?_)
      · have h := cond_t hc h
        refine AW.skip <| AW.seq <| AW.block <| AW.seq ?_
        obtain ⟨e19, he19, h⟩ := bsome h
        obtain ⟨e20, he20, h⟩ := bsome h
        obtain ⟨x21, hx21, h⟩ := bsome h
        obtain ⟨x22, hx22, h⟩ := bsome h
        obtain ⟨x23, hx23, h⟩ := bsome h
        refine AW.regionAny [⟨[0], [42], [], []⟩, ⟨[6], [43], [7], []⟩, ⟨[12], [44], [], []⟩, ⟨[44], [45], [13], []⟩, ⟨[14], [46], [], []⟩, ⟨[15], [47], [], []⟩, ⟨[46, 47], [48], [], []⟩, ⟨[48], [49], [], []⟩, ⟨[45, 49], [50], [], []⟩, ⟨[50], [51], [], []⟩, ⟨[51], [52], [], []⟩, ⟨[52], [53], [], []⟩, ⟨[53], [54], [], []⟩, ⟨[8], [55], [9], []⟩, ⟨[4], [56], [], []⟩, ⟨[42, 43, 54, 55, 56], [57], [], []⟩, ⟨[57], [41], [], []⟩, ⟨[41], [58], [], []⟩, ⟨[41], [59], [], []⟩, ⟨[], [17], [], []⟩, ⟨[58], [16], [], []⟩, ⟨[17, 59], [17], [], []⟩] mixed (by kernel_rfl) <| SMd rfl <| SLd ty39 7 rfl <| SFd lGroup_2 fl164_2 rfl <| SLd ty162 13 rfl <| SMd rfl <| SMd rfl <| Sc (lo [46, 47] [] rfl fun S hs hr => op_indexs' rfl rfl sl37 (vh hs 46 rfl rfl) (vh hs 47 rfl rfl) he19) rfl <| SLp ty3 rfl <| Sc (lo [45, 49] [] rfl fun S hs hr => op_indexs' rfl rfl sl162 (vh hs 45 rfl rfl) (vh hs 49 rfl rfl) he20) rfl <| SFp lBucket_3 fl226_3 rfl <| SLp ty122 rfl <| Sc (lo [52] [] rfl fun S hs hr => op_call (xs := [.const (Value.slice none 0 0), .tmp 52]) (c_r28_Write _ _ _ hx21) e153 rfl rfl ⟨vnil, vt ((hs 52 rfl).trans rfl), trivial⟩) rfl <| SCl [53] (c_r28_List _ _ hx22) e155 rfl <| SLd ty44 9 rfl <| SMd rfl <| SCl [42, 43, 54, 55, 56] (hR_r30_deep _ _ _ _ _ _ hx23) e223 rfl <| Sc (lo [57] [] rfl fun S hs hr => op_move (A := tup2 (rd (ksl kOut) x23.1) (rd (karr 24 kWide) x23.2)) rfl rfl (vh hs 57 rfl rfl)) rfl <| Sc (lo [41] [] rfl fun S hs hr => op_fst rfl rfl (vh hs 41 rfl rfl)) rfl <| Sc (lo [41] [] rfl fun S hs hr => op_snd rfl rfl (vh hs 41 rfl rfl)) rfl <| Sc (locs (us := [(17, ownP 44 (karr 24 kWide) (Vector.replicate 24 zWide))]) (ur := []) [] [] rfl fun S hs hr => op_allocO rfl rfl rfl zr44) rfl <| SAs rfl <| Sc (locs (us := [(17, ownP 44 (karr 24 kWide) x23.2)]) (ur := []) [17, 59] [] rfl fun S hs hr => op_storeO rfl rfl ty44 ((hs 17 rfl).trans rfl) (vh hs 59 rfl rfl)) rfl <| AW.unpackP 17 18 rfl rfl fun g24 => ?_
        obtain ⟨l25, hl25, h⟩ := bsome h
        refine Rg <| Mw rfl <| Md rfl <| Ct rfl (op_append' 1001 hl25 rfl rfl el46 (vt rfl) rfl (vt rfl)) ?_
        rintro _ ⟨v26, rfl⟩
        refine Aw rfl <| Nl <| Rg <| Md rfl <| Ac (op_add rfl rfl (vt rfl) (vk rfl)) rfl <| As rfl <| Nl ?_
        subst hgo1
        exact ⟨(m18, l25, (IntKind.i64.wrap (i17 + 1)), v26), Nat.lt_succ_self _, ⟨trivial, h⟩, ⟨rfl, ⟨rfl, rfl, rfl, rfl, rfl, rfl, rfl, rfl, trivial⟩, ⟨rfl, rfl, rfl, rfl, trivial⟩⟩⟩
      · have h := cond_f hc h
        refine AW.exit <| SR <| Mw rfl <| Aw rfl <| Nl <| AW.freezes [10, 11, 63] 1001 rfl ⟨rfl, rfl, rfl, trivial⟩ rfl <| AW.ret ?_
        obtain rfl := si h
        exact ret1 Tryz.results234 rfl (out_tmp rfl)
def FR_r30_deep__r30_group : Nat → ((List Group) → Env → (List Action) → (Vector Wide 24) → Int → Option ((List Out) × (Vector Wide 24))) × ((List Group) → Env → Int → (Vector Wide 24) → Int → Option (List Out))
  | 0 => ((fun _ _ _ _ _ => none), (fun _ _ _ _ _ => none))
  | n + 1 => ((F_r30_deep_s (FR_r30_deep__r30_group n).1 (FR_r30_deep__r30_group n).2), (F_r30_group_s (FR_r30_deep__r30_group n).1 (FR_r30_deep__r30_group n).2))
theorem cR_r30_deep__r30_group : ∀ n : Nat, (∀ (l1 : (List Group)) (e2 : Env) (acts3 : (List Action)) (h4 : (Vector Wide 24)) (depth5 : Int) (r : ((List Out) × (Vector Wide 24))), (FR_r30_deep__r30_group n).1 l1 e2 acts3 h4 depth5 = some r → PCon Tryz.prog 223 [rd (ksl kGroup) l1, rd kEnv e2, rd (ksl kAction) acts3, rd (karr 24 kWide) h4, rd (kint .i64) depth5] (tup2 (rd (ksl kOut) r.1) (rd (karr 24 kWide) r.2))) ∧ (∀ (l1 : (List Group)) (e2 : Env) (id3 : Int) (h4 : (Vector Wide 24)) (depth5 : Int) (r : (List Out)), (FR_r30_deep__r30_group n).2 l1 e2 id3 h4 depth5 = some r → PCon Tryz.prog 234 [rd (ksl kGroup) l1, rd kEnv e2, rd (kint .i64) id3, rd (karr 24 kWide) h4, rd (kint .i64) depth5] (rd (ksl kOut) r))
  | 0 => ⟨(by intros; rename_i h; cases h), (by intros; rename_i h; cases h)⟩
  | n + 1 => by
    have ih := cR_r30_deep__r30_group n
    exact ⟨(c_r30_deep_s (FR_r30_deep__r30_group n).1 ih.1 (FR_r30_deep__r30_group n).2 ih.2), (c_r30_group_s (FR_r30_deep__r30_group n).1 ih.1 (FR_r30_deep__r30_group n).2 ih.2)⟩
def F_r30_group (l1 : (List Group)) (e2 : Env) (id3 : Int) (h4 : (Vector Wide 24)) (depth5 : Int) : Option (List Out) := (FR_r30_deep__r30_group fuel0).2 l1 e2 id3 h4 depth5
theorem c_r30_group : ∀ (l1 : (List Group)) (e2 : Env) (id3 : Int) (h4 : (Vector Wide 24)) (depth5 : Int) (r : (List Out)), F_r30_group l1 e2 id3 h4 depth5 = some r → PCon Tryz.prog 234 [rd (ksl kGroup) l1, rd kEnv e2, rd (kint .i64) id3, rd (karr 24 kWide) h4, rd (kint .i64) depth5] (rd (ksl kOut) r) := (cR_r30_deep__r30_group fuel0).2
def F_r30_Group (l1 : (List Group)) (e2 : Env) (id3 : Int) (h4 : (Vector Wide 24)) : Option (List Out) :=
  (F_r30_group l1 e2 id3 h4 1).bind fun x7 => some x7
theorem c_r30_Group (l1 : (List Group)) (e2 : Env) (id3 : Int) (h4 : (Vector Wide 24)) (r : (List Out)) (h : F_r30_Group l1 e2 id3 h4 = some r) : PCon Tryz.prog 168 [rd (ksl kGroup) l1, rd kEnv e2, rd (kint .i64) id3, rd (karr 24 kWide) h4] (rd (ksl kOut) r) := by
  refine PCon.of (Con.intro0 Tryz.func168 rfl Tryz.ntmps168 rfl fun w H => ?_)
  unfold F_r30_Group at h
  refine SR <| Ct rfl (op_box 6 rfl rfl (vt rfl)) ?_
  rintro _ ⟨g5, rfl⟩
  refine Ct rfl (op_box 8 rfl rfl (vt rfl)) ?_
  rintro _ ⟨g6, rfl⟩
  refine Ac (op_assign (A := rd (ksl kOut) []) rfl rfl vnil) rfl <| Nl <| AW.seq ?_
  obtain ⟨x7, hx7, h⟩ := bsome h
  refine Rg <| Md rfl <| Ld ty39 6 rfl <| Md rfl <| Ld ty44 8 rfl <| Ac (op_call (xs := [.tmp 9, .tmp 10, .tmp 11, .tmp 12, .const (Value.int IntKind.i64 1)]) (c_r30_group _ _ _ _ _ _ hx7) e234 rfl rfl ⟨vt rfl, vt rfl, vt rfl, vt rfl, vk rfl, trivial⟩) rfl <| As rfl <| Nl <| AW.ret ?_
  obtain rfl := si h
  exact ret1 Tryz.results168 rfl (out_tmp rfl)
def F_r32_Out_l1 (a3 : (List Atom)) (h4 : (Vector Wide 24)) (l1 : (List Group)) (e2 : Env) : Nat → (List Out) → Int → Option (List Out)
  | 0, _, _ => none
  | m14 + 1, l11, i13 => (bif (decide (i13 < (a3.length : Int))) then (lget a3 i13).bind fun e15 => (F_r09_Apply e15.Rewrite h4).bind fun x16 => (lget a3 i13).bind fun e18 => (bif e18.Group then (lget a3 i13).bind fun e19 => (F_r30_Group l1 e2 e19.Port x16).bind fun x20 => (appd l11 x20).bind fun l21 => (F_r32_Out_l1 a3 h4 l1 e2 m14) l21 (IntKind.i64.wrap (i13 + 1)) else (lget a3 i13).bind fun e23 => (lget a3 i13).bind fun e24 => (appd l11 [(⟨e23.Port, e24.Max, x16⟩ : Out)]).bind fun l25 => (F_r32_Out_l1 a3 h4 l1 e2 m14) l25 (IntKind.i64.wrap (i13 + 1))) else some l11)
def F_r32_Out (l1 : (List Group)) (e2 : Env) (a3 : (List Atom)) (h4 : (Vector Wide 24)) : Option (List Out) :=
  F_r32_Out_l1 a3 h4 l1 e2 ((((a3.length : Int) : Int) - 0).toNat + 1) [] 0
theorem c_r32_Out (l1 : (List Group)) (e2 : Env) (a3 : (List Atom)) (h4 : (Vector Wide 24)) (r : (List Out)) (h : F_r32_Out l1 e2 a3 h4 = some r) : PCon Tryz.prog 103 [rd (ksl kGroup) l1, rd kEnv e2, rd (ksl kAtom) a3, rd (karr 24 kWide) h4] (rd (ksl kOut) r) := by
  refine PCon.of (Con.intro0 Tryz.func103 rfl Tryz.ntmps103 rfl fun w H => ?_)
  unfold F_r32_Out at h
  refine SR <| Ct rfl (op_box 6 rfl rfl (vt rfl)) ?_
  rintro _ ⟨g5, rfl⟩
  refine Ct rfl (op_box 8 rfl rfl (vt rfl)) ?_
  rintro _ ⟨g6, rfl⟩
  refine Ac (op_assign (A := rd (ksl kOut) []) rfl rfl vnil) rfl <| Nl <| SR <| Ct rfl (op_buildSlice 1001 (ps := []) (l := []) rfl rfl sl46 zr71 rfl rfl rfl rfl) ?_
  rintro _ ⟨v7, rfl⟩
  refine Aw rfl <| Nl <| AW.seq <| SR <| Ak rfl <| Nl <| AW.block <| AW.loopG (d := []) (ν := Nat × (List Out) × Int × Value) (fun n => True ∧ F_r32_Out_l1 a3 h4 l1 e2 n.1 n.2.1 n.2.2.1 = some r) (fun n => n.1) (fun n => [(0, rd (ksl kGroup) l1), (2, rd (ksl kAtom) a3), (5, ptrL g5 (Lens.id kEnv)), (7, ptrL g6 (Lens.id (karr 24 kWide))), (9, raw n.2.2.2), (10, rd (kint .i64) n.2.2.1)]) (fun n => [(6, Blk g5 39 kEnv e2), (8, Blk g6 44 (karr 24 kWide) h4), (1001, Row n.2.2.2 71 kOut n.2.1)]) (((((a3.length : Int) : Int) - 0).toNat + 1), [], 0, v7) ⟨trivial, h⟩ ⟨rfl, ⟨rfl, rfl, rfl, rfl, rfl, rfl, trivial⟩, ⟨rfl, rfl, rfl, trivial⟩⟩ ?_
  rintro ⟨m14, l11, i13, v12⟩ ⟨hsf1, h⟩
  change True at hsf1
  change F_r32_Out_l1 a3 h4 l1 e2 m14 l11 i13 = some r at h
  change AW _ _ _ ⟨slots [(0, rd (ksl kGroup) l1), (2, rd (ksl kAtom) a3), (5, ptrL g5 (Lens.id kEnv)), (7, ptrL g6 (Lens.id (karr 24 kWide))), (9, raw v12), (10, rd (kint .i64) i13)], ress [(6, Blk g5 39 kEnv e2), (8, Blk g6 44 (karr 24 kWide) h4), (1001, Row v12 71 kOut l11)], _⟩
  cases m14 with
  | zero => cases h
  | succ m14 =>
    unfold F_r32_Out_l1 at h
    generalize hgo1 : F_r32_Out_l1 a3 h4 l1 e2 m14 = go1 at h
    refine AW.seq <| SR <| Md rfl <| Md rfl <| Ac (op_len' rfl rfl sl88 (vt rfl)) rfl <| Ac (op_lss rfl rfl (vt rfl) (vt rfl)) rfl <| Nl <| Cn rfl (fun hc => ?_) (fun hc => ?_)
    · have h := cond_t hc h
      refine AW.skip <| AW.seq <| AW.block <| AW.seq ?_
      obtain ⟨e15, he15, h⟩ := bsome h
      obtain ⟨x16, hx16, h⟩ := bsome h
      refine AW.regionAny [⟨[2], [19], [], []⟩, ⟨[10], [20], [], []⟩, ⟨[19, 20], [21], [], []⟩, ⟨[21], [22], [], []⟩, ⟨[22], [23], [], []⟩, ⟨[7], [24], [8], []⟩, ⟨[23, 24], [25], [], []⟩, ⟨[], [11], [], []⟩, ⟨[11, 25], [11], [], []⟩] mixed (by kernel_rfl) <| SMd rfl <| SMd rfl <| Sc (lo [19, 20] [] rfl fun S hs hr => op_indexs' rfl rfl sl88 (vh hs 19 rfl rfl) (vh hs 20 rfl rfl) he15) rfl <| SFp lAtom_0 fl126_0 rfl <| SLp ty101 rfl <| SLd ty44 8 rfl <| SCl [23, 24] (c_r09_Apply _ _ _ hx16) e119 rfl <| Sc (locs (us := [(11, ownP 44 (karr 24 kWide) (Vector.replicate 24 zWide))]) (ur := []) [] [] rfl fun S hs hr => op_allocO rfl rfl rfl zr44) rfl <| Sc (locs (us := [(11, ownP 44 (karr 24 kWide) x16)]) (ur := []) [11, 25] [] rfl fun S hs hr => op_storeO rfl rfl ty44 ((hs 11 rfl).trans rfl) (vh hs 25 rfl rfl)) rfl <| AW.unpackP 11 12 rfl rfl fun g17 => AW.seq ?_
      obtain ⟨e18, he18, h⟩ := bsome h
      refine Rg <| Md rfl <| Md rfl <| Ac (op_indexs' rfl rfl sl88 (vt rfl) (vt rfl) he18) rfl <| Fp lAtom_1 fl126_1 rfl <| Lp1 ty4 rfl <| Nl <| Cn rfl (fun hc => ?_) (fun hc => ?_)
      · have h := cond_t hc h
        obtain ⟨e19, he19, h⟩ := bsome h
        obtain ⟨x20, hx20, h⟩ := bsome h
        obtain ⟨l21, hl21, h⟩ := bsome h
        refine AW.regionAny [⟨[9], [31], [], []⟩, ⟨[0], [32], [], []⟩, ⟨[5], [33], [6], []⟩, ⟨[2], [34], [], []⟩, ⟨[10], [35], [], []⟩, ⟨[34, 35], [36], [], []⟩, ⟨[36], [37], [], []⟩, ⟨[37], [38], [], []⟩, ⟨[11], [39], [12], []⟩, ⟨[32, 33, 38, 39], [40], [], []⟩, ⟨[31, 40], [41], [1001], [1001]⟩, ⟨[41], [41, 9], [1002], []⟩] mixed (by kernel_rfl) <| SMw rfl <| SMd rfl <| SLd ty39 6 rfl <| SMd rfl <| SMd rfl <| Sc (lo [34, 35] [] rfl fun S hs hr => op_indexs' rfl rfl sl88 (vh hs 34 rfl rfl) (vh hs 35 rfl rfl) he19) rfl <| SFp lAtom_2 fl126_2 rfl <| SLp ty3 rfl <| SLd ty44 12 rfl <| SCl [32, 33, 38, 39] (c_r30_Group _ _ _ _ _ hx20) e168 rfl <| Sc (locs (us := [(41, ownR 71 kOut l21)]) (ur := [(1001, emp)]) [31, 40] [1001] rfl fun S hs hr => op_appendO 1001 hl21 rfl rfl rfl el46 (vh hs 31 rfl rfl) ((hr 1001 rfl).trans rfl) (vh hs 40 rfl rfl)) rfl <| Sc (locs (us := [(41, top), (9, ownR 71 kOut l21)]) (ur := []) [41] [1002] rfl fun S hs hr => op_assignO 1002 rfl rfl rfl rfl ((hs 41 rfl).trans rfl) ((hr 1002 rfl).trans rfl)) rfl <| AW.unpackR 9 1001 rfl rfl fun v22 => Rg <| Md rfl <| Ac (op_add rfl rfl (vt rfl) (vk rfl)) rfl <| As rfl <| Nl ?_
        subst hgo1
        exact ⟨(m14, l21, (IntKind.i64.wrap (i13 + 1)), v22), Nat.lt_succ_self _, ⟨trivial, h⟩, ⟨rfl, ⟨rfl, rfl, rfl, rfl, rfl, rfl, trivial⟩, ⟨rfl, rfl, rfl, trivial⟩⟩⟩
      · have h := cond_f hc h
        obtain ⟨e23, he23, h⟩ := bsome h
        obtain ⟨e24, he24, h⟩ := bsome h
        obtain ⟨l25, hl25, h⟩ := bsome h
        refine AW.regionAny [⟨[9], [42], [], []⟩, ⟨[2], [43], [], []⟩, ⟨[10], [44], [], []⟩, ⟨[43, 44], [45], [], []⟩, ⟨[45], [46], [], []⟩, ⟨[46], [47], [], []⟩, ⟨[2], [48], [], []⟩, ⟨[10], [49], [], []⟩, ⟨[48, 49], [50], [], []⟩, ⟨[50], [51], [], []⟩, ⟨[51], [52], [], []⟩, ⟨[11], [53], [12], []⟩, ⟨[47, 52, 53], [54], [], []⟩, ⟨[54], [55], [], []⟩, ⟨[42, 55], [56], [1001], [1001]⟩, ⟨[56], [56, 9], [1003], []⟩] mixed (by kernel_rfl) <| SMw rfl <| SMd rfl <| SMd rfl <| Sc (lo [43, 44] [] rfl fun S hs hr => op_indexs' rfl rfl sl88 (vh hs 43 rfl rfl) (vh hs 44 rfl rfl) he23) rfl <| SFp lAtom_2 fl126_2 rfl <| SLp ty3 rfl <| SMd rfl <| SMd rfl <| Sc (lo [48, 49] [] rfl fun S hs hr => op_indexs' rfl rfl sl88 (vh hs 48 rfl rfl) (vh hs 49 rfl rfl) he24) rfl <| SFp lAtom_3 fl126_3 rfl <| SLp ty3 rfl <| SLd ty44 12 rfl <| Sc (lo [47, 52, 53] [] rfl fun S hs hr => op_build (ps := [(0, .tmp 47), (1, .tmp 52), (2, .tmp 53)]) (x := (⟨e23.Port, e24.Max, x16⟩ : Out)) rfl rfl rfl (by kernel_rfl) zr71 ⟨_, _, lOut_0, _, by kernel_rfl, (vh hs 47 rfl rfl), _, _, lOut_1, _, by kernel_rfl, (vh hs 52 rfl rfl), _, _, lOut_2, _, by kernel_rfl, (vh hs 53 rfl rfl), rfl⟩) rfl <| Sc (lo [54] [] rfl fun S hs hr => op_buildSliceR (ps := [(0, .tmp 54)]) (l := [(⟨e23.Port, e24.Max, x16⟩ : Out)]) rfl rfl sl46 zr71 rfl rfl ⟨_, _, Lens.idx 1 kOut 0 (by decide), _, rfl, (vh hs 54 rfl rfl), rfl⟩ rfl) rfl <| Sc (locs (us := [(56, ownR 71 kOut l25)]) (ur := [(1001, emp)]) [42, 55] [1001] rfl fun S hs hr => op_appendO 1001 hl25 rfl rfl rfl el46 (vh hs 42 rfl rfl) ((hr 1001 rfl).trans rfl) (vh hs 55 rfl rfl)) rfl <| Sc (locs (us := [(56, top), (9, ownR 71 kOut l25)]) (ur := []) [56] [1003] rfl fun S hs hr => op_assignO 1003 rfl rfl rfl rfl ((hs 56 rfl).trans rfl) ((hr 1003 rfl).trans rfl)) rfl <| AW.unpackR 9 1001 rfl rfl fun v26 => Rg <| Md rfl <| Ac (op_add rfl rfl (vt rfl) (vk rfl)) rfl <| As rfl <| Nl ?_
        subst hgo1
        exact ⟨(m14, l25, (IntKind.i64.wrap (i13 + 1)), v26), Nat.lt_succ_self _, ⟨trivial, h⟩, ⟨rfl, ⟨rfl, rfl, rfl, rfl, rfl, rfl, trivial⟩, ⟨rfl, rfl, rfl, trivial⟩⟩⟩
    · have h := cond_f hc h
      refine AW.exit <| SR <| Mw rfl <| Aw rfl <| Nl <| AW.freezes [8, 9, 57] 1001 rfl ⟨rfl, rfl, rfl, trivial⟩ rfl <| AW.ret ?_
      obtain rfl := si h
      exact ret1 Tryz.results103 rfl (out_tmp rfl)
def F_r36_Out (f1 : Flat) (e2 : Env) (h3 : (Vector Wide 24)) : Option (List Out) :=
  (F_r36_Find f1 h3).bind fun x7 => (bif (!x7.2) then some [] else (lget f1.Rules x7.1).bind fun e8 => (F_r32_Out f1.Groups e2 e8.Atoms h3).bind fun x9 => some x9)
theorem c_r36_Out (f1 : Flat) (e2 : Env) (h3 : (Vector Wide 24)) (r : (List Out)) (h : F_r36_Out f1 e2 h3 = some r) : PCon Tryz.prog 45 [rd kFlat f1, rd kEnv e2, rd (karr 24 kWide) h3] (rd (ksl kOut) r) := by
  refine PCon.of (Con.intro0 Tryz.func45 rfl Tryz.ntmps45 rfl fun w H => ?_)
  unfold F_r36_Out at h
  refine SR <| Ct rfl (op_box 4 rfl rfl (vt rfl)) ?_
  rintro _ ⟨g4, rfl⟩
  refine Ct rfl (op_box 5 rfl rfl (vt rfl)) ?_
  rintro _ ⟨g5, rfl⟩
  refine Ct rfl (op_box 6 rfl rfl (vt rfl)) ?_
  rintro _ ⟨g6, rfl⟩
  refine Ac (op_assign (A := rd (ksl kOut) []) rfl rfl vnil) rfl <| Nl <| AW.seq ?_
  obtain ⟨x7, hx7, h⟩ := bsome h
  refine Rg <| Ld ty73 4 rfl <| Ld ty44 6 rfl <| Cl [10, 11] (c_r36_Find _ _ _ hx7) e43 rfl <| Mt2 rfl <| Ac (op_fst rfl rfl (vt rfl)) rfl <| Ac (op_snd rfl rfl (vt rfl)) rfl <| As rfl <| As rfl <| Nl <| AW.seq <| SR <| Md rfl <| Ac (op_not rfl rfl (vt rfl)) rfl <| Nl <| Cn rfl (fun hc => ?_) (fun hc => ?_)
  · have h := cond_t hc h
    refine SR <| Ac (op_assign (A := rd (ksl kOut) []) rfl rfl vnil) rfl <| Nl <| AW.ret ?_
    obtain rfl := si h
    exact ret1 Tryz.results45 rfl (out_tmp rfl)
  · have h := cond_f hc h
    refine AW.skip <| AW.seq ?_
    obtain ⟨e8, he8, h⟩ := bsome h
    obtain ⟨x9, hx9, h⟩ := bsome h
    refine AW.regionAny [⟨[3], [17], [], []⟩, ⟨[17], [18], [4], []⟩, ⟨[4], [19], [5], []⟩, ⟨[3], [20], [], []⟩, ⟨[20], [21], [4], []⟩, ⟨[7], [22], [], []⟩, ⟨[21, 22], [23], [], []⟩, ⟨[23], [24], [], []⟩, ⟨[24], [25], [], []⟩, ⟨[5], [26], [6], []⟩, ⟨[18, 19, 25, 26], [27], [], []⟩, ⟨[27], [6], [], []⟩] mixed (by kernel_rfl) <| SFd lFlat_1 fl73_1 rfl <| SLd ty24 4 rfl <| SLd ty39 5 rfl <| SFd lFlat_0 fl73_0 rfl <| SLd ty32 4 rfl <| SMd rfl <| Sc (lo [21, 22] [] rfl fun S hs hr => op_indexs' rfl rfl sl32 (vh hs 21 rfl rfl) (vh hs 22 rfl rfl) he8) rfl <| SFp lRule_1 fl90_1 rfl <| SLp ty88 rfl <| SLd ty44 6 rfl <| SCl [18, 19, 25, 26] (c_r32_Out _ _ _ _ _ hx9) e103 rfl <| SAs rfl <| AW.ret ?_
    obtain rfl := si h
    exact ret1 Tryz.results45 rfl (out_tmp rfl)
def F_r30_Same_l1 (a1 : (List Out)) (b2 : (List Out)) : Nat → Int → Option Bool
  | 0, _ => none
  | m5 + 1, i4 => (bif (decide (i4 < (a1.length : Int))) then (lget a1 i4).bind fun e6 => (lget b2 i4).bind fun e7 => (opt (!(decide (e6.Port ≠ e7.Port))) (lget a1 i4)).bind fun e8 => (opt (!(decide (e6.Port ≠ e7.Port))) (lget b2 i4)).bind fun e9 => (opt (!((decide (e6.Port ≠ e7.Port)) || (decide (e8.Max ≠ e9.Max)))) (lget a1 i4)).bind fun e10 => (opt (!((decide (e6.Port ≠ e7.Port)) || (decide (e8.Max ≠ e9.Max)))) (lget b2 i4)).bind fun e11 => (bif (((decide (e6.Port ≠ e7.Port)) || (decide (e8.Max ≠ e9.Max))) || (decide (e10.Header ≠ e11.Header))) then some false else (F_r30_Same_l1 a1 b2 m5) (IntKind.i64.wrap (i4 + 1))) else some true)
def F_r30_Same (a1 : (List Out)) (b2 : (List Out)) : Option Bool :=
  (bif (decide ((a1.length : Int) ≠ (b2.length : Int))) then some false else F_r30_Same_l1 a1 b2 ((((a1.length : Int) : Int) - 0).toNat + 1) 0)
theorem c_r30_Same (a1 : (List Out)) (b2 : (List Out)) (r : Bool) (h : F_r30_Same a1 b2 = some r) : PCon Tryz.prog 28 [rd (ksl kOut) a1, rd (ksl kOut) b2] (rd kbool r) := by
  refine PCon.of (Con.intro0 Tryz.func28 rfl Tryz.ntmps28 rfl fun w H => ?_)
  unfold F_r30_Same at h
  refine SR <| Ab rfl <| Nl <| AW.seq <| SR <| Md rfl <| Ac (op_len' rfl rfl sl46 (vt rfl)) rfl <| Md rfl <| Ac (op_len' rfl rfl sl46 (vt rfl)) rfl <| Ac (op_neq rfl rfl (vt rfl) (vt rfl)) rfl <| Nl <| Cn rfl (fun hc => ?_) (fun hc => ?_)
  · have h := cond_t hc h
    refine SR <| Ab rfl <| Nl <| AW.ret ?_
    obtain rfl := si h
    exact ret1 Tryz.results28 rfl (out_tmp rfl)
  · have h := cond_f hc h
    refine AW.skip <| AW.seq <| SR <| Ak rfl <| Nl <| AW.block <| AW.loopG (d := []) (ν := Nat × Int) (fun n => True ∧ F_r30_Same_l1 a1 b2 n.1 n.2 = some r) (fun n => n.1) (fun n => [(0, rd (ksl kOut) a1), (1, rd (ksl kOut) b2), (5, rd (kint .i64) n.2)]) (fun n => []) (((((a1.length : Int) : Int) - 0).toNat + 1), 0) ⟨trivial, h⟩ ⟨rfl, ⟨rfl, rfl, rfl, trivial⟩, trivial⟩ ?_
    rintro ⟨m5, i4⟩ ⟨hsf1, h⟩
    change True at hsf1
    change F_r30_Same_l1 a1 b2 m5 i4 = some r at h
    change AW _ _ _ ⟨slots [(0, rd (ksl kOut) a1), (1, rd (ksl kOut) b2), (5, rd (kint .i64) i4)], ress [], _⟩
    cases m5 with
    | zero => cases h
    | succ m5 =>
      unfold F_r30_Same_l1 at h
      generalize hgo1 : F_r30_Same_l1 a1 b2 m5 = go1 at h
      refine AW.seq <| SR <| Md rfl <| Md rfl <| Ac (op_len' rfl rfl sl46 (vt rfl)) rfl <| Ac (op_lss rfl rfl (vt rfl) (vt rfl)) rfl <| Nl <| Cn rfl (fun hc => ?_) (fun hc => ?_)
      · have h := cond_t hc h
        refine AW.skip <| AW.seq <| AW.block <| AW.seq ?_
        obtain ⟨e6, he6, h⟩ := bsome h
        obtain ⟨e7, he7, h⟩ := bsome h
        obtain ⟨e8, he8, h⟩ := bsome h
        obtain ⟨e9, he9, h⟩ := bsome h
        obtain ⟨e10, he10, h⟩ := bsome h
        obtain ⟨e11, he11, h⟩ := bsome h
        refine AW.regionAny [⟨[0], [17], [], []⟩, ⟨[5], [18], [], []⟩, ⟨[17, 18], [19], [], []⟩, ⟨[19], [20], [], []⟩, ⟨[20], [21], [], []⟩, ⟨[1], [22], [], []⟩, ⟨[5], [23], [], []⟩, ⟨[22, 23], [24], [], []⟩, ⟨[24], [25], [], []⟩, ⟨[25], [26], [], []⟩, ⟨[21, 26], [27], [], []⟩, ⟨[27], [28], [], []⟩, ⟨[0, 28], [29], [], []⟩, ⟨[5, 28], [30], [], []⟩, ⟨[29, 30, 28], [31], [], []⟩, ⟨[31, 28], [32], [], []⟩, ⟨[32, 28], [33], [], []⟩, ⟨[1, 28], [34], [], []⟩, ⟨[5, 28], [35], [], []⟩, ⟨[34, 35, 28], [36], [], []⟩, ⟨[36, 28], [37], [], []⟩, ⟨[37, 28], [38], [], []⟩, ⟨[33, 38, 28], [39], [], []⟩, ⟨[39, 28], [40], [], []⟩, ⟨[40], [41], [], []⟩, ⟨[0, 41], [42], [], []⟩, ⟨[5, 41], [43], [], []⟩, ⟨[42, 43, 41], [44], [], []⟩, ⟨[44, 41], [45], [], []⟩, ⟨[45, 41], [46], [], []⟩, ⟨[1, 41], [47], [], []⟩, ⟨[5, 41], [48], [], []⟩, ⟨[47, 48, 41], [49], [], []⟩, ⟨[49, 41], [50], [], []⟩, ⟨[50, 41], [51], [], []⟩, ⟨[46, 51, 41], [52], [], []⟩, ⟨[52, 41], [53], [], []⟩] mixed (by kernel_rfl) <| SMd rfl <| SMd rfl <| Sc (lo [17, 18] [] rfl fun S hs hr => op_indexs' rfl rfl sl46 (vh hs 17 rfl rfl) (vh hs 18 rfl rfl) he6) rfl <| SFp lOut_0 fl71_0 rfl <| SLp ty3 rfl <| SMd rfl <| SMd rfl <| Sc (lo [22, 23] [] rfl fun S hs hr => op_indexs' rfl rfl sl46 (vh hs 22 rfl rfl) (vh hs 23 rfl rfl) he7) rfl <| SFp lOut_0 fl71_0 rfl <| SLp ty3 rfl <| Sc (lo [21, 26] [] rfl fun S hs hr => op_neq rfl rfl (vh hs 21 rfl rfl) (vh hs 26 rfl rfl)) rfl <| SMd rfl <| Sc (lg [0, 28] [] rfl fun hq S hs hr => op_move (A := rd (ksl kOut) a1) rfl rfl (vh hs 0 rfl rfl)) rfl <| Sc (lg [5, 28] [] rfl fun hq S hs hr => op_move (A := rd (kint .i64) i4) rfl rfl (vh hs 5 rfl rfl)) rfl <| Sc (lg [29, 30, 28] [] rfl fun hq S hs hr => op_indexs' rfl rfl sl46 (vgt ((hs 29 rfl).trans rfl) hq) (vgt ((hs 30 rfl).trans rfl) hq) (opt_f he8 hq)) rfl <| Sc (lg [31, 28] [] rfl fun hq S hs hr => op_fieldp lOut_1 rfl rfl fl71_1 (vgt ((hs 31 rfl).trans rfl) hq)) rfl <| Sc (lg [32, 28] [] rfl fun hq S hs hr => op_loadp rfl rfl ty3 (vgt ((hs 32 rfl).trans rfl) hq)) rfl <| Sc (lg [1, 28] [] rfl fun hq S hs hr => op_move (A := rd (ksl kOut) b2) rfl rfl (vh hs 1 rfl rfl)) rfl <| Sc (lg [5, 28] [] rfl fun hq S hs hr => op_move (A := rd (kint .i64) i4) rfl rfl (vh hs 5 rfl rfl)) rfl <| Sc (lg [34, 35, 28] [] rfl fun hq S hs hr => op_indexs' rfl rfl sl46 (vgt ((hs 34 rfl).trans rfl) hq) (vgt ((hs 35 rfl).trans rfl) hq) (opt_f he9 hq)) rfl <| Sc (lg [36, 28] [] rfl fun hq S hs hr => op_fieldp lOut_1 rfl rfl fl71_1 (vgt ((hs 36 rfl).trans rfl) hq)) rfl <| Sc (lg [37, 28] [] rfl fun hq S hs hr => op_loadp rfl rfl ty3 (vgt ((hs 37 rfl).trans rfl) hq)) rfl <| Sc (lg [33, 38, 28] [] rfl fun hq S hs hr => op_neq rfl rfl (vgt ((hs 33 rfl).trans rfl) hq) (vgt ((hs 38 rfl).trans rfl) hq)) rfl <| Sc (lo [39, 28] [] rfl fun S hs hr => op_any rfl rfl (vh hs 28 rfl rfl) (vh hs 39 rfl rfl)) rfl <| SMd rfl <| Sc (lg [0, 41] [] rfl fun hq S hs hr => op_move (A := rd (ksl kOut) a1) rfl rfl (vh hs 0 rfl rfl)) rfl <| Sc (lg [5, 41] [] rfl fun hq S hs hr => op_move (A := rd (kint .i64) i4) rfl rfl (vh hs 5 rfl rfl)) rfl ?_
        refine Sc (lg [42, 43, 41] [] rfl fun hq S hs hr => op_indexs' rfl rfl sl46 (vgt ((hs 42 rfl).trans rfl) hq) (vgt ((hs 43 rfl).trans rfl) hq) (opt_f he10 hq)) rfl <| Sc (lg [44, 41] [] rfl fun hq S hs hr => op_fieldp lOut_2 rfl rfl fl71_2 (vgt ((hs 44 rfl).trans rfl) hq)) rfl <| Sc (lg [45, 41] [] rfl fun hq S hs hr => op_loadp rfl rfl ty44 (vgt ((hs 45 rfl).trans rfl) hq)) rfl <| Sc (lg [1, 41] [] rfl fun hq S hs hr => op_move (A := rd (ksl kOut) b2) rfl rfl (vh hs 1 rfl rfl)) rfl <| Sc (lg [5, 41] [] rfl fun hq S hs hr => op_move (A := rd (kint .i64) i4) rfl rfl (vh hs 5 rfl rfl)) rfl <| Sc (lg [47, 48, 41] [] rfl fun hq S hs hr => op_indexs' rfl rfl sl46 (vgt ((hs 47 rfl).trans rfl) hq) (vgt ((hs 48 rfl).trans rfl) hq) (opt_f he11 hq)) rfl <| Sc (lg [49, 41] [] rfl fun hq S hs hr => op_fieldp lOut_2 rfl rfl fl71_2 (vgt ((hs 49 rfl).trans rfl) hq)) rfl <| Sc (lg [50, 41] [] rfl fun hq S hs hr => op_loadp rfl rfl ty44 (vgt ((hs 50 rfl).trans rfl) hq)) rfl <| Sc (lg [46, 51, 41] [] rfl fun hq S hs hr => op_neqk rfl rfl eqk44 (by decide) rfl eg44 (vgt ((hs 46 rfl).trans rfl) hq) (vgt ((hs 51 rfl).trans rfl) hq)) rfl <| Sc (lo [52, 41] [] rfl fun S hs hr => op_any rfl rfl (vh hs 41 rfl rfl) (vh hs 52 rfl rfl)) rfl <| Cn rfl (fun hc => ?_) (fun hc => ?_)
        · have h := cond_t hc h
          refine SR <| Ab rfl <| Nl <| AW.ret ?_
          obtain rfl := si h
          exact ret1 Tryz.results28 rfl (out_tmp rfl)
        · have h := cond_f hc h
          refine AW.skip <| Rg <| Md rfl <| Ac (op_add rfl rfl (vt rfl) (vk rfl)) rfl <| As rfl <| Nl ?_
          subst hgo1
          exact ⟨(m5, (IntKind.i64.wrap (i4 + 1))), Nat.lt_succ_self _, ⟨trivial, h⟩, ⟨rfl, ⟨rfl, rfl, rfl, trivial⟩, trivial⟩⟩
      · have h := cond_f hc h
        refine AW.exit <| SR <| Ab rfl <| Nl <| AW.ret ?_
        obtain rfl := si h
        exact ret1 Tryz.results28 rfl (out_tmp rfl)
end Go.Proofs.YtknpgojdkobgjaaGreat.W
set_option linter.unusedVariables false
set_option maxRecDepth 4000
set_option linter.unusedSimpArgs false
namespace Go.Proofs.YtknpgojdkobgjaaGreat.W
open Go Go.Wb
theorem e39 : Ent Tryz.prog 39 := Ent.mk Tryz.func39 rfl rfl
theorem e40 : Ent Tryz.prog 40 := Ent.mk Tryz.func40 rfl rfl
theorem e41 : Ent Tryz.prog 41 := Ent.mk Tryz.func41 rfl rfl
theorem e45 : Ent Tryz.prog 45 := Ent.mk Tryz.func45 rfl rfl
theorem e28 : Ent Tryz.prog 28 := Ent.mk Tryz.func28 rfl rfl
def F_l36_FindTells (f1 : Flat) (e2 : Env) (h3 : (Vector Wide 24)) : Option Bool :=
  (F_pl_Rules f1.Rules 20).bind fun x7 => (opt (!(!x7)) (F_pl_Groups f1.Groups 9 3)).bind fun x8 => (bif (((!x7) || (!x8)) || (decide ((e2.Down.length : Int) > 20))) then (F_l36_awake).bind fun x9 => some x9 else (F_find_Find f1 h3).bind fun x10 => (F_r36_Find f1 h3).bind fun x11 => (opt ((decide (x10.1 = x11.1)) && (x10.2 == x11.2)) (F_find_Out f1 e2 h3)).bind fun x12 => (opt ((decide (x10.1 = x11.1)) && (x10.2 == x11.2)) (F_r36_Out f1 e2 h3)).bind fun x13 => (opt ((decide (x10.1 = x11.1)) && (x10.2 == x11.2)) (F_r30_Same x12 x13)).bind fun x14 => (opt (((decide (x10.1 = x11.1)) && (x10.2 == x11.2)) && x14) (F_l36_awake)).bind fun x15 => some ((((decide (x10.1 = x11.1)) && (x10.2 == x11.2)) && x14) && x15))
theorem c_l36_FindTells (f1 : Flat) (e2 : Env) (h3 : (Vector Wide 24)) (r : Bool) (h : F_l36_FindTells f1 e2 h3 = some r) : PCon Tryz.prog 8 [rd kFlat f1, rd kEnv e2, rd (karr 24 kWide) h3] (rd kbool r) := by
  refine PCon.of (Con.intro0 Tryz.func8 rfl Tryz.ntmps8 rfl fun w H => ?_)
  unfold F_l36_FindTells at h
  refine SR <| Ct rfl (op_box 4 rfl rfl (vt rfl)) ?_
  rintro _ ⟨g4, rfl⟩
  refine Ct rfl (op_box 5 rfl rfl (vt rfl)) ?_
  rintro _ ⟨g5, rfl⟩
  refine Ct rfl (op_box 6 rfl rfl (vt rfl)) ?_
  rintro _ ⟨g6, rfl⟩
  refine Ab rfl <| Nl <| AW.seq <| AW.seq ?_
  obtain ⟨x7, hx7, h⟩ := bsome h
  obtain ⟨x8, hx8, h⟩ := bsome h
  refine Rg <| FdA lFlat_0 fl73_0 rfl <| Ld ty32 4 rfl <| Ac (op_call (xs := [.tmp 12, .const (Value.int IntKind.i64 20)]) (c_pl_Rules _ _ _ hx7) e39 rfl rfl ⟨vt rfl, vk rfl, trivial⟩) rfl <| Ac (op_not rfl rfl (vt rfl)) rfl <| Md rfl <| Gd rfl (fun hq => op_field lFlat_1 rfl rfl fl73_1 (vt rfl)) <| Gd rfl (fun hq => op_load rfl rfl ty24 (vgt rfl hq) (i := 4) rfl) <| Gd rfl (fun hq => op_call (xs := [.tmp 17, .const (Value.int IntKind.i64 9), .const (Value.int IntKind.i64 3)]) (c_pl_Groups _ _ _ _ (opt_f hx8 hq)) e40 rfl rfl ⟨vgt rfl hq, vk rfl, vk rfl, trivial⟩) <| Gd rfl (fun hq => op_not rfl rfl (vgt rfl hq)) <| Ac (op_any rfl rfl (vt rfl) (vt rfl)) rfl <| Md rfl <| Gd rfl (fun hq => op_field lEnv_1 rfl rfl fl39_1 (vt rfl)) <| Gd rfl (fun hq => op_load rfl rfl ty37 (vgt rfl hq) (i := 5) rfl) <| Gd rfl (fun hq => op_len' rfl rfl sl37 (vgt rfl hq)) <| Gd rfl (fun hq => op_gtr rfl rfl (vgt rfl hq) (vk rfl)) <| Ac (op_any rfl rfl (vt rfl) (vt rfl)) rfl <| Nl <| Cn rfl (fun hc => ?_) (fun hc => ?_)
  · have h := cond_t hc h
    refine AW.seq ?_
    obtain ⟨x9, hx9, h⟩ := bsome h
    refine Rg <| Cl [] (c_l36_awake _ hx9) e41 rfl <| As rfl <| Nl <| AW.ret ?_
    obtain rfl := si h
    exact ret1 Tryz.results8 rfl (out_tmp rfl)
  · have h := cond_f hc h
    refine AW.skip <| AW.seq ?_
    obtain ⟨x10, hx10, h⟩ := bsome h
    refine Rg <| Ld ty73 4 rfl <| Ld ty44 6 rfl <| Cl [29, 30] (c_find_Find _ _ _ hx10) e42 rfl <| Mt2 rfl <| Ac (op_fst rfl rfl (vt rfl)) rfl <| Ac (op_snd rfl rfl (vt rfl)) rfl <| As rfl <| As rfl <| Nl <| AW.seq ?_
    obtain ⟨x11, hx11, h⟩ := bsome h
    refine Rg <| Ld ty73 4 rfl <| Ld ty44 6 rfl <| Cl [35, 36] (c_r36_Find _ _ _ hx11) e43 rfl <| Mt2 rfl <| Ac (op_fst rfl rfl (vt rfl)) rfl <| Ac (op_snd rfl rfl (vt rfl)) rfl <| As rfl <| As rfl <| Nl <| AW.seq ?_
    obtain ⟨x12, hx12, h⟩ := bsome h
    obtain ⟨x13, hx13, h⟩ := bsome h
    obtain ⟨x14, hx14, h⟩ := bsome h
    obtain ⟨x15, hx15, h⟩ := bsome h
    refine AW.regionAny [⟨[7], [40], [], []⟩, ⟨[9], [41], [], []⟩, ⟨[40, 41], [42], [], []⟩, ⟨[42], [43], [], []⟩, ⟨[8, 43], [44], [], []⟩, ⟨[10, 43], [45], [], []⟩, ⟨[44, 45, 43], [46], [], []⟩, ⟨[46, 43], [47], [], []⟩, ⟨[47], [48], [], []⟩, ⟨[3, 48], [49], [4], []⟩, ⟨[4, 48], [50], [5], []⟩, ⟨[5, 48], [51], [6], []⟩, ⟨[49, 50, 51, 48], [52], [], []⟩, ⟨[3, 48], [53], [4], []⟩, ⟨[4, 48], [54], [5], []⟩, ⟨[5, 48], [55], [6], []⟩, ⟨[53, 54, 55, 48], [56], [], []⟩, ⟨[52, 56, 48], [57], [], []⟩, ⟨[57, 48], [58], [], []⟩, ⟨[58], [59], [], []⟩, ⟨[59], [60], [], []⟩, ⟨[60, 59], [61], [], []⟩, ⟨[61], [6], [], []⟩] mixed (by kernel_rfl) <| SMd rfl <| SMd rfl <| Sc (lo [40, 41] [] rfl fun S hs hr => op_eql rfl rfl (vh hs 40 rfl rfl) (vh hs 41 rfl rfl)) rfl <| SMd rfl <| Sc (lg [8, 43] [] rfl fun hq S hs hr => op_move (A := rd kbool x10.2) rfl rfl (vh hs 8 rfl rfl)) rfl <| Sc (lg [10, 43] [] rfl fun hq S hs hr => op_move (A := rd kbool x11.2) rfl rfl (vh hs 10 rfl rfl)) rfl <| Sc (lg [44, 45, 43] [] rfl fun hq S hs hr => op_eqlb rfl rfl un4 (vgt ((hs 44 rfl).trans rfl) hq) (vgt ((hs 45 rfl).trans rfl) hq)) rfl <| Sc (lo [46, 43] [] rfl fun S hs hr => op_all rfl rfl (vh hs 43 rfl rfl) (vh hs 46 rfl rfl)) rfl <| SMd rfl <| Sc (lg [3, 48] [4] rfl fun hq S hs hr => op_load rfl rfl ty73 (vh hs 3 rfl rfl) (i := 4) ((hr 4 rfl).trans rfl)) rfl <| Sc (lg [4, 48] [5] rfl fun hq S hs hr => op_load rfl rfl ty39 (vh hs 4 rfl rfl) (i := 5) ((hr 5 rfl).trans rfl)) rfl <| Sc (lg [5, 48] [6] rfl fun hq S hs hr => op_load rfl rfl ty44 (vh hs 5 rfl rfl) (i := 6) ((hr 6 rfl).trans rfl)) rfl <| Sc (lg [49, 50, 51, 48] [] rfl fun hq S hs hr => op_call (xs := [.tmp 49, .tmp 50, .tmp 51]) (c_find_Out _ _ _ _ (opt_t hx12 hq)) e44 rfl rfl ⟨vgt ((hs 49 rfl).trans rfl) hq, vgt ((hs 50 rfl).trans rfl) hq, vgt ((hs 51 rfl).trans rfl) hq, trivial⟩) rfl <| Sc (lg [3, 48] [4] rfl fun hq S hs hr => op_load rfl rfl ty73 (vh hs 3 rfl rfl) (i := 4) ((hr 4 rfl).trans rfl)) rfl <| Sc (lg [4, 48] [5] rfl fun hq S hs hr => op_load rfl rfl ty39 (vh hs 4 rfl rfl) (i := 5) ((hr 5 rfl).trans rfl)) rfl <| Sc (lg [5, 48] [6] rfl fun hq S hs hr => op_load rfl rfl ty44 (vh hs 5 rfl rfl) (i := 6) ((hr 6 rfl).trans rfl)) rfl <| Sc (lg [53, 54, 55, 48] [] rfl fun hq S hs hr => op_call (xs := [.tmp 53, .tmp 54, .tmp 55]) (c_r36_Out _ _ _ _ (opt_t hx13 hq)) e45 rfl rfl ⟨vgt ((hs 53 rfl).trans rfl) hq, vgt ((hs 54 rfl).trans rfl) hq, vgt ((hs 55 rfl).trans rfl) hq, trivial⟩) rfl <| Sc (lg [52, 56, 48] [] rfl fun hq S hs hr => op_call (xs := [.tmp 52, .tmp 56]) (c_r30_Same _ _ _ (opt_t hx14 hq)) e28 rfl rfl ⟨vgt ((hs 52 rfl).trans rfl) hq, vgt ((hs 56 rfl).trans rfl) hq, trivial⟩) rfl <| Sc (lo [57, 48] [] rfl fun S hs hr => op_all rfl rfl (vh hs 48 rfl rfl) (vh hs 57 rfl rfl)) rfl <| SMd rfl <| Sc (lg [59] [] rfl fun hq S hs hr => op_call (xs := []) (c_l36_awake _ (opt_t hx15 hq)) e41 rfl rfl trivial) rfl <| Sc (lo [60, 59] [] rfl fun S hs hr => op_all rfl rfl (vh hs 59 rfl rfl) (vh hs 60 rfl rfl)) rfl ?_
    refine SAs rfl <| AW.ret ?_
    obtain rfl := si h
    exact ret1 Tryz.results8 rfl (out_tmp rfl)
end Go.Proofs.YtknpgojdkobgjaaGreat.W
set_option linter.unusedVariables false
set_option maxRecDepth 4000
set_option linter.unusedSimpArgs false
namespace Go.Proofs.YtknpgojdkobgjaaGreat.W
open Go Go.Wb
end Go.Proofs.YtknpgojdkobgjaaGreat.W
