/- GzF14: a part of the proof. -/
import Derived.Test.YtokmmcflinnfiaaGreatGzF13
set_option linter.unusedVariables false
set_option maxRecDepth 4000
set_option linter.unusedSimpArgs false
namespace Go.Proofs.YtokmmcflinnfiaaGreat.W
open Go Go.Wb
-- weirbox/atom.Out$1
def F46 (x1 : Atom) (c2 : (Vector Wide 24)) (c3 : (List Out)) (c6 : (List Group)) (c7 : Env) : Option (List Out) :=
  (F47 x1.Rewrite c2).bind fun x9 => (bif x1.Group then (F10 c6 c7 x1.Port x9).bind fun x11 => (appd c3 x11).bind fun l12 => some l12 else (appd c3 [(⟨x1.Port, x1.Max, x9⟩ : Out)]).bind fun l14 => some l14)
theorem c46 (g4 : Nat) (x1 : Atom) (c2 : (Vector Wide 24)) (c3 : (List Out)) (c6 : (List Group)) (c7 : Env) (r : (List Out)) (h : F46 x1 c2 c3 c6 c7 = some r) : Con Tryz.prog 46 [rd kAtom x1, rp (karr 24 kWide) c2, ptrL g4 (Lens.id kraw), rp (ksl kGroup) c6, rp kEnv c7] (BoxF g4 34 kraw (fun v => v) 69 kOut c3) (fun _ : Unit => top) (fun _ => BoxF g4 34 kraw (fun v => v) 69 kOut r) := by
  refine Con.intro Tryz.func46 rfl Tryz.ntmps46 rfl fun w H X => ?_
  unfold F46 at h
  refine AW.unboxF 0 2019 (by decide) rfl rfl fun v5 => ?_
  refine AW.seq ?_
  refine AW.region ?_
  refine AOps.consT rfl (op_box 6 rfl rfl (vt rfl)) ?_
  rintro _ ⟨g8, rfl⟩
  refine AOps.nil ?_
  refine AW.seq ?_
  obtain ⟨x9, hx9, h⟩ := bsome h
  refine AW.region ?_
  refine AOps.cons (op_field lAtom_0 rfl rfl fl48_0 (vt rfl)) rfl ?_
  refine AOps.cons (op_load rfl rfl ty44 (vt rfl) (i := 6) rfl) rfl ?_
  refine AOps.cons (op_loadp rfl rfl ty31 (vt rfl)) rfl ?_
  refine AOps.cons (op_call (xs := [.tmp 8, .tmp 9]) (c47 _ _ _ hx9) (Ent.mk Tryz.func47 rfl rfl) rfl rfl ⟨vt rfl, vt rfl, trivial⟩) rfl ?_
  refine AOps.consT rfl (op_alloc 7 rfl rfl zr31) ?_
  rintro _ ⟨g10, rfl⟩
  refine AOps.cons (op_store rfl rfl ty31 (vt rfl) (i := 7) rfl (vt rfl)) rfl ?_
  refine AOps.nil ?_
  refine AW.seq ?_
  refine AW.seq ?_
  refine AW.region ?_
  refine AOps.cons (op_field lAtom_1 rfl rfl fl48_1 (vt rfl)) rfl ?_
  refine AOps.cons (op_load rfl rfl ty4 (vt rfl) (i := 6) rfl) rfl ?_
  refine AOps.nil ?_
  refine AW.cond (vt rfl) (fun hc => ?_) (fun hc => ?_)
  · have h := cond_t hc h
    refine AW.seq ?_
    obtain ⟨x11, hx11, h⟩ := bsome h
    obtain ⟨l12, hl12, h⟩ := bsome h
    refine AW.regionAny [⟨[2], [13], [0], []⟩, ⟨[3], [14], [], []⟩, ⟨[4], [15], [], []⟩, ⟨[5], [16], [], []⟩, ⟨[16], [17], [6], []⟩, ⟨[6], [18], [7], []⟩, ⟨[14, 15, 17, 18], [19], [], []⟩, ⟨[13, 19], [20], [2019], [2019]⟩, ⟨[2, 20], [20], [0], [0]⟩] mixed (by kernel_rfl) ?_
    refine SeqA.cons (loc [2] [0] rfl rfl fun S hs hr => op_loadv v5 rfl rfl tyr34 (vt ((hs 2 rfl).trans rfl)) (i := 0) ((hr 0 rfl).trans rfl) rfl) ⟨rfl, rfl, rfl, rfl⟩ ?_
    refine SeqA.cons (loc [3] [] rfl rfl fun S hs hr => op_loadp rfl rfl ty22 (vt ((hs 3 rfl).trans rfl))) ⟨rfl, rfl, rfl, rfl⟩ ?_
    refine SeqA.cons (loc [4] [] rfl rfl fun S hs hr => op_loadp rfl rfl ty25 (vt ((hs 4 rfl).trans rfl))) ⟨rfl, rfl, rfl, rfl⟩ ?_
    refine SeqA.cons (loc [5] [] rfl rfl fun S hs hr => op_field lAtom_2 rfl rfl fl48_2 (vt ((hs 5 rfl).trans rfl))) ⟨rfl, rfl, rfl, rfl⟩ ?_
    refine SeqA.cons (loc [16] [6] rfl rfl fun S hs hr => op_load rfl rfl ty3 (vt ((hs 16 rfl).trans rfl)) (i := 6) ((hr 6 rfl).trans rfl)) ⟨rfl, rfl, rfl, rfl⟩ ?_
    refine SeqA.cons (loc [6] [7] rfl rfl fun S hs hr => op_load rfl rfl ty31 (vt ((hs 6 rfl).trans rfl)) (i := 7) ((hr 7 rfl).trans rfl)) ⟨rfl, rfl, rfl, rfl⟩ ?_
    refine SeqA.cons (loc [14, 15, 17, 18] [] rfl rfl fun S hs hr => op_call (xs := [.tmp 14, .tmp 15, .tmp 17, .tmp 18]) (c10 _ _ _ _ _ hx11) (Ent.mk Tryz.func10 rfl rfl) rfl rfl ⟨vt ((hs 14 rfl).trans rfl), vt ((hs 15 rfl).trans rfl), vt ((hs 17 rfl).trans rfl), vt ((hs 18 rfl).trans rfl), trivial⟩) ⟨rfl, rfl, rfl, rfl⟩ ?_
    refine SeqA.cons (locs (us := [(20, ownR 69 kOut l12)]) (ur := [(2019, emp)]) [13, 19] [2019] rfl fun S hs hr => op_appendO 2019 hl12 rfl rfl rfl el34 (vt ((hs 13 rfl).trans rfl)) ((hr 2019 rfl).trans rfl) (vt ((hs 19 rfl).trans rfl))) ⟨rfl, rfl, rfl, rfl⟩ ?_
    refine SeqA.cons (locs (us := [(20, top)]) (ur := [(0, BoxF g4 34 kraw (fun v => ((Lens.id kraw)).set v5 v) 69 kOut l12)]) [2, 20] [0] rfl fun S hs hr => op_storeR rfl rfl tyr34 (vt ((hs 2 rfl).trans rfl)) ((hr 0 rfl).trans rfl) ((hs 20 rfl).trans rfl)) ⟨rfl, rfl, rfl, rfl⟩ ?_
    refine AW.unboxF 0 2019 (by decide) rfl rfl fun v13 => ?_
    refine AW.ret ?_
    obtain rfl := Option.some.inj h
    exact RetOK.turn (Turn.packF 0 2019 (fun v => v) (by decide) rfl rfl) (ret0Y (i := 0) Tryz.results46 rfl rfl)
  · have h := cond_f hc h
    refine AW.skip ?_
    obtain ⟨l14, hl14, h⟩ := bsome h
    refine AW.region ?_
    refine AOps.cons (op_loadv v5 rfl rfl tyr34 (vt rfl) (i := 0) rfl rfl) rfl ?_
    refine AOps.cons (op_field lAtom_2 rfl rfl fl48_2 (vt rfl)) rfl ?_
    refine AOps.cons (op_load rfl rfl ty3 (vt rfl) (i := 6) rfl) rfl ?_
    refine AOps.cons (op_field lAtom_3 rfl rfl fl48_3 (vt rfl)) rfl ?_
    refine AOps.cons (op_load rfl rfl ty3 (vt rfl) (i := 6) rfl) rfl ?_
    refine AOps.cons (op_load rfl rfl ty31 (vt rfl) (i := 7) rfl) rfl ?_
    refine AOps.cons (op_build (ps := [(0, .tmp 23), (1, .tmp 25), (2, .tmp 26)]) (x := (⟨x1.Port, x1.Max, x9⟩ : Out)) rfl rfl rfl (by kernel_rfl) zr69 ⟨_, _, lOut_0, _, by kernel_rfl, (vt rfl), _, _, lOut_1, _, by kernel_rfl, (vt rfl), _, _, lOut_2, _, by kernel_rfl, (vt rfl), rfl⟩) rfl ?_
    refine AOps.cons (op_buildSliceR (ps := [(0, .tmp 27)]) (l := [(⟨x1.Port, x1.Max, x9⟩ : Out)]) rfl rfl sl34 zr69 rfl rfl ⟨_, _, Lens.idx 1 kOut 0 (by decide), _, rfl, (vt rfl), rfl⟩ rfl) rfl ?_
    refine AOps.consT rfl (op_append' 2019 hl14 rfl rfl el34 (vt rfl) rfl (vt rfl)) ?_
    rintro _ ⟨v15, rfl⟩
    refine AOps.cons (op_store rfl rfl tyr34 (vt rfl) (i := 0) rfl (vrow (i := 2019) rfl rfl)) rfl ?_
    refine AOps.nil ?_
    obtain rfl := Option.some.inj h
    exact RetOK.turn (Turn.packF 0 2019 (fun v => v) (by decide) rfl rfl) (ret0Y (i := 0) Tryz.results46 rfl rfl)
-- weirbox/atom.each[weirbox/api.Atom]
def F45_l1 (sg : Type) (do2 : (sg → Atom → Option sg)) : (List Atom) → Nat → sg → Option sg
  | [], i6, s5 => some s5
  | x8 :: l7, i6, s5 => (do2 s5 x8).bind fun s10 => (F45_l1 sg do2 l7) (i6 + 1) s10
def F45 (l1 : (List Atom)) (sg : Type) (do2 : (sg → Atom → Option sg)) (s3 : sg) : Option sg :=
  F45_l1 sg do2 l1 0 s3
theorem c45 (l1 : (List Atom)) (sg : Type) (do2 : (sg → Atom → Option sg)) (L : sg → Res) (s3 : sg) (r : sg) (h : F45 l1 sg do2 s3 = some r) : Con Tryz.prog 45 [rd (ksl kAtom) l1, stA Tryz.prog kAtom do2 L] (L s3) (fun _ : Unit => top) (fun _ => L r) := by
  refine Con.intro Tryz.func45 rfl Tryz.ntmps45 rfl fun w H X => ?_
  unfold F45 at h
  refine AW.seq ?_
  refine AW.region ?_
  refine AOps.cons (op_move (A := rd (ksl kAtom) l1) rfl rfl (vt rfl)) rfl ?_
  refine AOps.cons (op_len' rfl rfl sl40 (vt rfl)) rfl ?_
  refine AOps.cons (op_move (A := rd (kint .i64) 0) rfl rfl (vk rfl)) rfl ?_
  refine AOps.nil ?_
  refine AW.block ?_
  refine AW.loopG (d := []) (ν := (List Atom) × Nat × sg) (fun n => Sfx l1 n.2.1 n.1 ∧ F45_l1 sg do2 n.1 n.2.1 n.2.2 = some r) (fun n => n.1.length) (fun n => [(1, stA Tryz.prog kAtom do2 L), (6, rd (ksl kAtom) l1), (7, rd (kint .i64) (l1.length : Int)), (8, rd (kint .i64) (n.2.1 : Int))]) (fun n => [(0, L n.2.2)]) (l1, 0, s3) ⟨Sfx.start _, h⟩ ⟨rfl, ⟨rfl, rfl, rfl, rfl, trivial⟩, ⟨rfl, trivial⟩⟩ ?_
  rintro ⟨l7, i6, s5⟩ ⟨hsf1, h⟩
  change Sfx l1 i6 l7 at hsf1
  change F45_l1 sg do2 l7 i6 s5 = some r at h
  change AW _ _ _ ⟨slots [(1, stA Tryz.prog kAtom do2 L), (6, rd (ksl kAtom) l1), (7, rd (kint .i64) (l1.length : Int)), (8, rd (kint .i64) (i6 : Int))], ress [(0, L s5)], _⟩
  cases l7 with
  | nil =>
    unfold F45_l1 at h
    refine AW.seq ?_
    refine AW.region ?_
    refine AOps.cons (op_lss rfl rfl (vt rfl) (vt rfl)) rfl ?_
    refine AOps.nil ?_
    refine AW.seq ?_
    refine AW.cond (vt rfl) (fun hc => absurd (of_decide_eq_true hc) hsf1.nil) (fun hc => ?_)
    refine AW.exit ?_
    obtain rfl := Option.some.inj h
    exact ret0Y (i := 0) Tryz.results45 rfl rfl
  | cons x8 l7 =>
    unfold F45_l1 at h
    generalize hgo1 : F45_l1 sg do2 l7 = go1 at h
    refine AW.seq ?_
    refine AW.region ?_
    refine AOps.cons (op_lss rfl rfl (vt rfl) (vt rfl)) rfl ?_
    refine AOps.nil ?_
    refine AW.seq ?_
    refine AW.cond (vt rfl) (fun hc => ?_) (fun hc => absurd hsf1.cons (of_decide_eq_false hc))
    have hlti6 := of_decide_eq_true hc
    refine AW.skip ?_
    refine AW.seq ?_
    refine AW.block ?_
    refine AW.seq ?_
    refine AW.region ?_
    refine AOps.cons (op_indexs' rfl rfl sl40 (vt rfl) (vt rfl) hsf1.lget) rfl ?_
    refine AOps.cons (op_loadp rfl rfl ty48 (vt rfl)) rfl ?_
    refine AOps.consT rfl (op_alloc 6 rfl rfl zr48) ?_
    rintro _ ⟨g9, rfl⟩
    refine AOps.cons (op_store rfl rfl ty48 (vt rfl) (i := 6) rfl (vt rfl)) rfl ?_
    refine AOps.nil ?_
    obtain ⟨s10, hs10, h⟩ := bsome h
    refine AW.region ?_
    refine AOps.cons (op_move (A := stA Tryz.prog kAtom do2 L) rfl rfl (vt rfl)) rfl ?_
    refine AOps.cons (op_load rfl rfl ty48 (vt rfl) (i := 6) rfl) rfl ?_
    refine AOps.cons (op_callst 0 hs10 rfl rfl (vt rfl) (vt rfl) rfl) rfl ?_
    refine AOps.nil ?_
    refine AW.region ?_
    refine AOps.cons (op_incr (t := 7) rfl rfl (vt rfl) (vk rfl) (vt rfl) hlti6) rfl ?_
    refine AOps.cons (op_move (A := rd (kint .i64) ((i6 + 1 : Nat) : Int)) rfl rfl (vt rfl)) rfl ?_
    refine AOps.nil ?_
    subst hgo1
    exact ⟨(l7, i6 + 1, s10), Nat.lt_succ_self _, ⟨hsf1.next, h⟩, ⟨rfl, ⟨rfl, rfl, rfl, rfl, trivial⟩, ⟨rfl, trivial⟩⟩⟩
-- weirbox/atom.Out
def F25 (l1 : (List Group)) (e2 : Env) (a3 : (List Atom)) (h4 : (Vector Wide 24)) : Option (List Out) :=
  (F45 a3 (List Out) (fun s x => F46 x h4 s l1 e2) []).bind fun b9 => some b9
theorem c25 (l1 : (List Group)) (e2 : Env) (a3 : (List Atom)) (h4 : (Vector Wide 24)) (r : (List Out)) (h : F25 l1 e2 a3 h4 = some r) : PCon Tryz.prog 25 [rd (ksl kGroup) l1, rd kEnv e2, rd (ksl kAtom) a3, rd (karr 24 kWide) h4] (rd (ksl kOut) r) := by
  refine PCon.of (Con.intro0 Tryz.func25 rfl Tryz.ntmps25 rfl fun w H => ?_)
  unfold F25 at h
  refine AW.seq ?_
  refine AW.region ?_
  refine AOps.consT rfl (op_box 5 rfl rfl (vt rfl)) ?_
  rintro _ ⟨g5, rfl⟩
  refine AOps.consT rfl (op_box 6 rfl rfl (vt rfl)) ?_
  rintro _ ⟨g6, rfl⟩
  refine AOps.consT rfl (op_box 8 rfl rfl (vt rfl)) ?_
  rintro _ ⟨g7, rfl⟩
  refine AOps.cons (op_assign (A := rd (ksl kOut) []) rfl rfl vnil) rfl ?_
  refine AOps.nil ?_
  refine AW.seq ?_
  refine AW.newnil 2219 69 kOut ?_
  refine AW.region ?_
  refine AOps.consT rfl (op_alloc 10 rfl rfl zrr34) ?_
  rintro _ ⟨g8, rfl⟩
  refine AOps.nil ?_
  refine AW.seq ?_
  refine AW.freezeB 7 8 rfl rfl rfl ?_
  refine AW.freezeB 4 5 rfl rfl rfl ?_
  refine AW.freezeB 5 6 rfl rfl rfl ?_
  obtain ⟨b9, hb9, h⟩ := bsome h
  refine AW.region ?_
  refine AOps.cons (op_move (A := rd (ksl kAtom) a3) rfl rfl (vt rfl)) rfl ?_
  refine AOps.cons (op_st (fs := []) (cs := [.tmp 7, .tmp 9, .tmp 4, .tmp 5]) (FAs := []) (CAs := [rp (karr 24 kWide) h4, ptrL g8 (Lens.id kraw), rp (ksl kGroup) l1, rp kEnv e2]) (k := kAtom) (fun s x => F46 x h4 s l1 e2) (fun (s : (List Out)) => BoxF g8 34 kraw (fun v => v) 69 kOut s) rfl rfl (Ent.mk Tryz.func46 rfl rfl) trivial ⟨vt rfl, vt rfl, vt rfl, vt rfl, trivial⟩ (fun s x s2 h => c46  _ x h4 s l1 e2 s2 h)) rfl ?_
  refine AOps.packF 10 2219 (fun v => v) (by decide) rfl rfl ?_
  refine AOps.consT rfl (op_callR 10 (xs := [.tmp 10, .tmp 11]) (c45 _ (List Out) _ (fun (s : (List Out)) => BoxF g8 34 kraw (fun v => v) 69 kOut s) _ _ hb9) (Ent.mk Tryz.func45 rfl rfl) rfl rfl ⟨vt rfl, vt rfl, trivial⟩ rfl) ?_
  rintro _ ⟨_u, rfl⟩
  refine AOps.unboxF 10 2219 (by decide) rfl rfl fun v10 => ?_
  refine AOps.nil ?_
  refine AW.seq ?_
  refine AW.region ?_
  refine AOps.cons (op_loadv v10 rfl rfl tyr34 (vt rfl) (i := 10) rfl rfl) rfl ?_
  refine AOps.cons (op_assign (A := raw v10) rfl rfl (vt rfl)) rfl ?_
  refine AOps.nil ?_
  refine AW.freezes [8, 13] 2219 rfl ⟨rfl, rfl, trivial⟩ rfl ?_
  refine AW.ret ?_
  obtain rfl := Option.some.inj h
  exact ret1 Tryz.results25 rfl (out_tmp rfl)
-- slices.EqualFunc[[]weirbox/api.Atom,[]weirbox/api.Atom,weirbox/api.Atom,weirbox/api.Atom]
def F70_l1 (s22 : (List Atom)) (eq3 : (Atom → Atom → Option Bool)) : (List Atom) → Nat → Option Bool
  | [], i4 => some true
  | x6 :: l5, i4 => (lget s22 (i4 : Int)).bind fun e8 => (eq3 x6 e8).bind fun x10 => (bif (!x10) then some false else (F70_l1 s22 eq3 l5) (i4 + 1))
def F70 (s11 : (List Atom)) (s22 : (List Atom)) (eq3 : (Atom → Atom → Option Bool)) : Option Bool :=
  (bif (decide ((s11.length : Int) ≠ (s22.length : Int))) then some false else F70_l1 s22 eq3 s11 0)
theorem c70 (s11 : (List Atom)) (s22 : (List Atom)) (eq3 : (Atom → Atom → Option Bool)) (r : Bool) (h : F70 s11 s22 eq3 = some r) : PCon Tryz.prog 70 [rd (ksl kAtom) s11, rd (ksl kAtom) s22, fn2 Tryz.prog kAtom kAtom kbool eq3] (rd kbool r) := by
  refine PCon.of (Con.intro0 Tryz.func70 rfl Tryz.ntmps70 rfl fun w H => ?_)
  unfold F70 at h
  refine AW.seq ?_
  refine AW.region ?_
  refine AOps.cons (op_assign (A := rd kbool false) rfl rfl vb) rfl ?_
  refine AOps.nil ?_
  refine AW.seq ?_
  refine AW.seq ?_
  refine AW.region ?_
  refine AOps.cons (op_move (A := rd (ksl kAtom) s11) rfl rfl (vt rfl)) rfl ?_
  refine AOps.cons (op_len' rfl rfl sl40 (vt rfl)) rfl ?_
  refine AOps.cons (op_move (A := rd (ksl kAtom) s22) rfl rfl (vt rfl)) rfl ?_
  refine AOps.cons (op_len' rfl rfl sl40 (vt rfl)) rfl ?_
  refine AOps.cons (op_neq rfl rfl (vt rfl) (vt rfl)) rfl ?_
  refine AOps.nil ?_
  refine AW.cond (vt rfl) (fun hc => ?_) (fun hc => ?_)
  · have h := cond_t hc h
    refine AW.seq ?_
    refine AW.region ?_
    refine AOps.cons (op_assign (A := rd kbool false) rfl rfl vb) rfl ?_
    refine AOps.nil ?_
    refine AW.ret ?_
    obtain rfl := Option.some.inj h
    exact ret1 Tryz.results70 rfl (out_tmp rfl)
  · have h := cond_f hc h
    refine AW.skip ?_
    refine AW.seq ?_
    refine AW.seq ?_
    refine AW.region ?_
    refine AOps.cons (op_move (A := rd (ksl kAtom) s11) rfl rfl (vt rfl)) rfl ?_
    refine AOps.cons (op_len' rfl rfl sl40 (vt rfl)) rfl ?_
    refine AOps.cons (op_move (A := rd (kint .i64) 0) rfl rfl (vk rfl)) rfl ?_
    refine AOps.nil ?_
    refine AW.block ?_
    refine AW.loopG (d := []) (ν := (List Atom) × Nat) (fun n => Sfx s11 n.2 n.1 ∧ F70_l1 s22 eq3 n.1 n.2 = some r) (fun n => n.1.length) (fun n => [(1, rd (ksl kAtom) s22), (2, fn2 Tryz.prog kAtom kAtom kbool eq3), (15, rd (ksl kAtom) s11), (16, rd (kint .i64) (s11.length : Int)), (17, rd (kint .i64) (n.2 : Int))]) (fun n => []) (s11, 0) ⟨Sfx.start _, h⟩ ⟨rfl, ⟨rfl, rfl, rfl, rfl, rfl, trivial⟩, trivial⟩ ?_
    rintro ⟨l5, i4⟩ ⟨hsf1, h⟩
    change Sfx s11 i4 l5 at hsf1
    change F70_l1 s22 eq3 l5 i4 = some r at h
    change AW _ _ _ ⟨slots [(1, rd (ksl kAtom) s22), (2, fn2 Tryz.prog kAtom kAtom kbool eq3), (15, rd (ksl kAtom) s11), (16, rd (kint .i64) (s11.length : Int)), (17, rd (kint .i64) (i4 : Int))], ress [], _⟩
    cases l5 with
    | nil =>
      unfold F70_l1 at h
      refine AW.seq ?_
      refine AW.region ?_
      refine AOps.cons (op_lss rfl rfl (vt rfl) (vt rfl)) rfl ?_
      refine AOps.nil ?_
      refine AW.seq ?_
      refine AW.cond (vt rfl) (fun hc => absurd (of_decide_eq_true hc) hsf1.nil) (fun hc => ?_)
      refine AW.exit ?_
      refine AW.seq ?_
      refine AW.region ?_
      refine AOps.cons (op_assign (A := rd kbool true) rfl rfl vb) rfl ?_
      refine AOps.nil ?_
      refine AW.ret ?_
      obtain rfl := Option.some.inj h
      exact ret1 Tryz.results70 rfl (out_tmp rfl)
    | cons x6 l5 =>
      unfold F70_l1 at h
      generalize hgo1 : F70_l1 s22 eq3 l5 = go1 at h
      refine AW.seq ?_
      refine AW.region ?_
      refine AOps.cons (op_lss rfl rfl (vt rfl) (vt rfl)) rfl ?_
      refine AOps.nil ?_
      refine AW.seq ?_
      refine AW.cond (vt rfl) (fun hc => ?_) (fun hc => absurd hsf1.cons (of_decide_eq_false hc))
      have hlti4 := of_decide_eq_true hc
      refine AW.skip ?_
      refine AW.seq ?_
      refine AW.block ?_
      refine AW.seq ?_
      refine AW.region ?_
      refine AOps.cons (op_move (A := rd (kint .i64) (i4 : Int)) rfl rfl (vt rfl)) rfl ?_
      refine AOps.cons (op_indexs' rfl rfl sl40 (vt rfl) (vt rfl) hsf1.lget) rfl ?_
      refine AOps.cons (op_loadp rfl rfl ty48 (vt rfl)) rfl ?_
      refine AOps.consT rfl (op_alloc 9 rfl rfl zr48) ?_
      rintro _ ⟨g7, rfl⟩
      refine AOps.cons (op_assign (A := rd (kint .i64) (i4 : Int)) rfl rfl (vt rfl)) rfl ?_
      refine AOps.cons (op_store rfl rfl ty48 (vt rfl) (i := 9) rfl (vt rfl)) rfl ?_
      refine AOps.nil ?_
      refine AW.seq ?_
      obtain ⟨e8, he8, h⟩ := bsome h
      refine AW.region ?_
      refine AOps.cons (op_move (A := rd (ksl kAtom) s22) rfl rfl (vt rfl)) rfl ?_
      refine AOps.cons (op_move (A := rd (kint .i64) (i4 : Int)) rfl rfl (vt rfl)) rfl ?_
      refine AOps.cons (op_indexs' rfl rfl sl40 (vt rfl) (vt rfl) he8) rfl ?_
      refine AOps.cons (op_loadp rfl rfl ty48 (vt rfl)) rfl ?_
      refine AOps.consT rfl (op_alloc 10 rfl rfl zr48) ?_
      rintro _ ⟨g9, rfl⟩
      refine AOps.cons (op_store rfl rfl ty48 (vt rfl) (i := 10) rfl (vt rfl)) rfl ?_
      refine AOps.nil ?_
      refine AW.seq ?_
      obtain ⟨x10, hx10, h⟩ := bsome h
      refine AW.region ?_
      refine AOps.cons (op_move (A := fn2 Tryz.prog kAtom kAtom kbool eq3) rfl rfl (vt rfl)) rfl ?_
      refine AOps.cons (op_load rfl rfl ty48 (vt rfl) (i := 9) rfl) rfl ?_
      refine AOps.cons (op_load rfl rfl ty48 (vt rfl) (i := 10) rfl) rfl ?_
      refine AOps.cons (op_call2 hx10 rfl rfl (vt rfl) (vt rfl) (vt rfl)) rfl ?_
      refine AOps.cons (op_not rfl rfl (vt rfl)) rfl ?_
      refine AOps.nil ?_
      refine AW.cond (vt rfl) (fun hc => ?_) (fun hc => ?_)
      · have h := cond_t hc h
        refine AW.seq ?_
        refine AW.region ?_
        refine AOps.cons (op_assign (A := rd kbool false) rfl rfl vb) rfl ?_
        refine AOps.nil ?_
        refine AW.ret ?_
        obtain rfl := Option.some.inj h
        exact ret1 Tryz.results70 rfl (out_tmp rfl)
      · have h := cond_f hc h
        refine AW.skip ?_
        refine AW.region ?_
        refine AOps.cons (op_incr (t := 16) rfl rfl (vt rfl) (vk rfl) (vt rfl) hlti4) rfl ?_
        refine AOps.cons (op_move (A := rd (kint .i64) ((i4 + 1 : Nat) : Int)) rfl rfl (vt rfl)) rfl ?_
        refine AOps.nil ?_
        subst hgo1
        exact ⟨(l5, i4 + 1), Nat.lt_succ_self _, ⟨hsf1.next, h⟩, ⟨rfl, ⟨rfl, rfl, rfl, rfl, rfl, trivial⟩, trivial⟩⟩
-- weirbox/atom.same
def F71 (a1 : Atom) (b2 : Atom) : Option Bool :=
  (F61 a1.Rewrite).bind fun x5 => (F61 b2.Rewrite).bind fun x6 => some (decide ({ a1 with Rewrite := x5 } = { b2 with Rewrite := x6 }))
theorem c71 (a1 : Atom) (b2 : Atom) (r : Bool) (h : F71 a1 b2 = some r) : PCon Tryz.prog 71 [rd kAtom a1, rd kAtom b2] (rd kbool r) := by
  refine PCon.of (Con.intro0 Tryz.func71 rfl Tryz.ntmps71 rfl fun w H => ?_)
  unfold F71 at h
  refine AW.seq ?_
  refine AW.region ?_
  refine AOps.consT rfl (op_box 3 rfl rfl (vt rfl)) ?_
  rintro _ ⟨g3, rfl⟩
  refine AOps.consT rfl (op_box 4 rfl rfl (vt rfl)) ?_
  rintro _ ⟨g4, rfl⟩
  refine AOps.cons (op_assign (A := rd kbool false) rfl rfl vb) rfl ?_
  refine AOps.nil ?_
  refine AW.seq ?_
  obtain ⟨x5, hx5, h⟩ := bsome h
  obtain ⟨x6, hx6, h⟩ := bsome h
  refine AW.regionAny [⟨[2], [5], [], []⟩, ⟨[5], [6], [3], []⟩, ⟨[6], [7], [], []⟩, ⟨[3], [8], [], []⟩, ⟨[8], [9], [4], []⟩, ⟨[9], [10], [], []⟩, ⟨[2], [11], [], []⟩, ⟨[11, 7], [], [3], [3]⟩, ⟨[3], [12], [], []⟩, ⟨[12, 10], [], [4], [4]⟩] mixed (by kernel_rfl) ?_
  refine SeqA.cons (loc [2] [] rfl rfl fun S hs hr => op_field lAtom_0 rfl rfl fl48_0 (vt ((hs 2 rfl).trans rfl))) ⟨rfl, rfl, rfl, rfl⟩ ?_
  refine SeqA.cons (loc [5] [3] rfl rfl fun S hs hr => op_load rfl rfl ty44 (vt ((hs 5 rfl).trans rfl)) (i := 3) ((hr 3 rfl).trans rfl)) ⟨rfl, rfl, rfl, rfl⟩ ?_
  refine SeqA.cons (loc [6] [] rfl rfl fun S hs hr => op_call (xs := [.tmp 6]) (c61 _ _ hx5) (Ent.mk Tryz.func61 rfl rfl) rfl rfl ⟨vt ((hs 6 rfl).trans rfl), trivial⟩) ⟨rfl, rfl, rfl, rfl⟩ ?_
  refine SeqA.cons (loc [3] [] rfl rfl fun S hs hr => op_field lAtom_0 rfl rfl fl48_0 (vt ((hs 3 rfl).trans rfl))) ⟨rfl, rfl, rfl, rfl⟩ ?_
  refine SeqA.cons (loc [8] [4] rfl rfl fun S hs hr => op_load rfl rfl ty44 (vt ((hs 8 rfl).trans rfl)) (i := 4) ((hr 4 rfl).trans rfl)) ⟨rfl, rfl, rfl, rfl⟩ ?_
  refine SeqA.cons (loc [9] [] rfl rfl fun S hs hr => op_call (xs := [.tmp 9]) (c61 _ _ hx6) (Ent.mk Tryz.func61 rfl rfl) rfl rfl ⟨vt ((hs 9 rfl).trans rfl), trivial⟩) ⟨rfl, rfl, rfl, rfl⟩ ?_
  refine SeqA.cons (loc [2] [] rfl rfl fun S hs hr => op_field lAtom_0 rfl rfl fl48_0 (vt ((hs 2 rfl).trans rfl))) ⟨rfl, rfl, rfl, rfl⟩ ?_
  refine SeqA.cons (locr [11, 7] [3] rfl fun S hs hr => op_store rfl rfl ty44 (vt ((hs 11 rfl).trans rfl)) (i := 3) ((hr 3 rfl).trans rfl) (vt ((hs 7 rfl).trans rfl))) ⟨rfl, rfl, rfl, rfl⟩ ?_
  refine SeqA.cons (loc [3] [] rfl rfl fun S hs hr => op_field lAtom_0 rfl rfl fl48_0 (vt ((hs 3 rfl).trans rfl))) ⟨rfl, rfl, rfl, rfl⟩ ?_
  refine SeqA.cons (locr [12, 10] [4] rfl fun S hs hr => op_store rfl rfl ty44 (vt ((hs 12 rfl).trans rfl)) (i := 4) ((hr 4 rfl).trans rfl) (vt ((hs 10 rfl).trans rfl))) ⟨rfl, rfl, rfl, rfl⟩ ?_
  refine AW.seq ?_
  refine AW.region ?_
  refine AOps.cons (op_load rfl rfl ty48 (vt rfl) (i := 3) rfl) rfl ?_
  refine AOps.cons (op_load rfl rfl ty48 (vt rfl) (i := 4) rfl) rfl ?_
  refine AOps.cons (op_eqlk rfl rfl eqk48 (by decide) rfl eg48 (vt rfl) (vt rfl)) rfl ?_
  refine AOps.cons (op_assign (A := rd kbool (decide ({ a1 with Rewrite := x5 } = { b2 with Rewrite := x6 }))) rfl rfl (vt rfl)) rfl ?_
  refine AOps.nil ?_
  refine AW.ret ?_
  obtain rfl := Option.some.inj h
  exact ret1 Tryz.results71 rfl (out_tmp rfl)
-- weirbox/atom.Same
def F44 (a1 : (List Atom)) (b2 : (List Atom)) : Option Bool :=
  (F70 a1 b2 F71).bind fun x3 => some x3
theorem c44 (a1 : (List Atom)) (b2 : (List Atom)) (r : Bool) (h : F44 a1 b2 = some r) : PCon Tryz.prog 44 [rd (ksl kAtom) a1, rd (ksl kAtom) b2] (rd kbool r) := by
  refine PCon.of (Con.intro0 Tryz.func44 rfl Tryz.ntmps44 rfl fun w H => ?_)
  unfold F44 at h
  refine AW.seq ?_
  refine AW.region ?_
  refine AOps.cons (op_assign (A := rd kbool false) rfl rfl vb) rfl ?_
  refine AOps.nil ?_
  refine AW.seq ?_
  obtain ⟨x3, hx3, h⟩ := bsome h
  refine AW.region ?_
  refine AOps.cons (op_move (A := rd (ksl kAtom) a1) rfl rfl (vt rfl)) rfl ?_
  refine AOps.cons (op_move (A := rd (ksl kAtom) b2) rfl rfl (vt rfl)) rfl ?_
  refine AOps.cons (op_call (xs := [.tmp 5, .tmp 6, .func 71]) (c70 _ _ _ _ hx3) (Ent.mk Tryz.func70 rfl rfl) rfl rfl ⟨vt rfl, vt rfl, vf2 (Ent.mk Tryz.func71 rfl rfl) c71, trivial⟩) rfl ?_
  refine AOps.cons (op_assign (A := rd kbool x3) rfl rfl (vt rfl)) rfl ?_
  refine AOps.nil ?_
  refine AW.ret ?_
  obtain rfl := Option.some.inj h
  exact ret1 Tryz.results44 rfl (out_tmp rfl)
-- weirbox/weirboxlaw32.awake
def F24 : Option Bool :=
  (F34).bind fun x1 => (F43 [(⟨17, 0, 0, 0, 0, zOxm⟩ : Action), (⟨0, 4, 3, 0, 0, zOxm⟩ : Action), (⟨22, 0, 0, 7, 0, zOxm⟩ : Action)] x1).bind fun x2 => (F25 [] (⟨0, []⟩ : Env) x2.1 (Vector.replicate 24 zWide)).bind fun x4 => (opt (decide ((x2.1.length : Int) = 2)) (lget x2.1 1)).bind fun e5 => (opt ((decide ((x2.1.length : Int) = 2)) && e5.Group) (lget x2.1 1)).bind fun e6 => (opt (((decide ((x2.1.length : Int) = 2)) && e5.Group) && (decide (e6.Port = 7))) (lget x2.1 0)).bind fun e7 => (opt ((((((decide ((x2.1.length : Int) = 2)) && e5.Group) && (decide (e6.Port = 7))) && (decide (e7.Max = 0))) && (decide ((((Vector.get x2.2 (⟨5, by decide⟩ : _root_.Fin 24)).Mask).Lo) = (4096 : BitVec 64)))) && (decide ((x4.length : Int) = 1))) (lget x4 0)).bind fun e8 => (opt (((((((decide ((x2.1.length : Int) = 2)) && e5.Group) && (decide (e6.Port = 7))) && (decide (e7.Max = 0))) && (decide ((((Vector.get x2.2 (⟨5, by decide⟩ : _root_.Fin 24)).Mask).Lo) = (4096 : BitVec 64)))) && (decide ((x4.length : Int) = 1))) && (decide (((Vector.get e8.Header (⟨5, by decide⟩ : _root_.Fin 24)).Lo) = (4096 : BitVec 64)))) (F44 x2.1 x2.1)).bind fun x9 => (opt ((((((((decide ((x2.1.length : Int) = 2)) && e5.Group) && (decide (e6.Port = 7))) && (decide (e7.Max = 0))) && (decide ((((Vector.get x2.2 (⟨5, by decide⟩ : _root_.Fin 24)).Mask).Lo) = (4096 : BitVec 64)))) && (decide ((x4.length : Int) = 1))) && (decide (((Vector.get e8.Header (⟨5, by decide⟩ : _root_.Fin 24)).Lo) = (4096 : BitVec 64)))) && x9) (odrop x2.1 1)).bind fun s10 => (opt ((((((((decide ((x2.1.length : Int) = 2)) && e5.Group) && (decide (e6.Port = 7))) && (decide (e7.Max = 0))) && (decide ((((Vector.get x2.2 (⟨5, by decide⟩ : _root_.Fin 24)).Mask).Lo) = (4096 : BitVec 64)))) && (decide ((x4.length : Int) = 1))) && (decide (((Vector.get e8.Header (⟨5, by decide⟩ : _root_.Fin 24)).Lo) = (4096 : BitVec 64)))) && x9) (F44 x2.1 s10)).bind fun x11 => some (((((((((decide ((x2.1.length : Int) = 2)) && e5.Group) && (decide (e6.Port = 7))) && (decide (e7.Max = 0))) && (decide ((((Vector.get x2.2 (⟨5, by decide⟩ : _root_.Fin 24)).Mask).Lo) = (4096 : BitVec 64)))) && (decide ((x4.length : Int) = 1))) && (decide (((Vector.get e8.Header (⟨5, by decide⟩ : _root_.Fin 24)).Lo) = (4096 : BitVec 64)))) && x9) && (!x11))
theorem c24 (r : Bool) (h : F24 = some r) : PCon Tryz.prog 24 [] (rd kbool r) := by
  refine PCon.of (Con.intro0 Tryz.func24 rfl Tryz.ntmps24 rfl fun w H => ?_)
  unfold F24 at h
  refine AW.seq ?_
  refine AW.region ?_
  refine AOps.cons (op_assign (A := rd kbool false) rfl rfl vb) rfl ?_
  refine AOps.nil ?_
  refine AW.seq ?_
  obtain ⟨x1, hx1, h⟩ := bsome h
  obtain ⟨x2, hx2, h⟩ := bsome h
  refine AW.region ?_
  refine AOps.cons (op_build (ps := [(0, .const (Value.int IntKind.i64 17))]) (x := (⟨17, 0, 0, 0, 0, zOxm⟩ : Action)) rfl rfl rfl (by kernel_rfl) zr62 ⟨_, _, lAction_0, _, by kernel_rfl, (vk rfl), rfl⟩) rfl ?_
  refine AOps.cons (op_build (ps := [(0, .const (Value.int IntKind.i64 0)), (1, .const (Value.int IntKind.i64 4)), (2, .const (Value.int IntKind.i64 3))]) (x := (⟨0, 4, 3, 0, 0, zOxm⟩ : Action)) rfl rfl rfl (by kernel_rfl) zr62 ⟨_, _, lAction_0, _, by kernel_rfl, (vk rfl), _, _, lAction_1, _, by kernel_rfl, (vk rfl), _, _, lAction_2, _, by kernel_rfl, (vk rfl), rfl⟩) rfl ?_
  refine AOps.cons (op_build (ps := [(0, .const (Value.int IntKind.i64 22)), (3, .const (Value.int IntKind.i64 7))]) (x := (⟨22, 0, 0, 7, 0, zOxm⟩ : Action)) rfl rfl rfl (by kernel_rfl) zr62 ⟨_, _, lAction_0, _, by kernel_rfl, (vk rfl), _, _, lAction_3, _, by kernel_rfl, (vk rfl), rfl⟩) rfl ?_
  refine AOps.cons (op_buildSliceR (ps := [(0, .tmp 5), (1, .tmp 6), (2, .tmp 7)]) (l := [(⟨17, 0, 0, 0, 0, zOxm⟩ : Action), (⟨0, 4, 3, 0, 0, zOxm⟩ : Action), (⟨22, 0, 0, 7, 0, zOxm⟩ : Action)]) rfl rfl sl26 zr62 rfl rfl ⟨_, _, Lens.idx 3 kAction 0 (by decide), _, rfl, (vt rfl), _, _, Lens.idx 3 kAction 1 (by decide), _, rfl, (vt rfl), _, _, Lens.idx 3 kAction 2 (by decide), _, rfl, (vt rfl), rfl⟩ rfl) rfl ?_
  refine AOps.cons (op_call (xs := []) (c34 _ hx1) (Ent.mk Tryz.func34 rfl rfl) rfl rfl trivial) rfl ?_
  refine AOps.cons (op_call (xs := [.tmp 8, .tmp 9]) (c43 _ _ _ hx2) (Ent.mk Tryz.func43 rfl rfl) rfl rfl ⟨vt rfl, vt rfl, trivial⟩) rfl ?_
  refine AOps.cons (op_move (A := tup2 (rd (ksl kAtom) x2.1) (rd (karr 24 kTern) x2.2)) rfl rfl (vt rfl)) rfl ?_
  refine AOps.cons (op_fst rfl rfl (vt rfl)) rfl ?_
  refine AOps.cons (op_snd rfl rfl (vt rfl)) rfl ?_
  refine AOps.consT rfl (op_alloc 3 rfl rfl zr44) ?_
  rintro _ ⟨g3, rfl⟩
  refine AOps.cons (op_assign (A := rd (ksl kAtom) x2.1) rfl rfl (vt rfl)) rfl ?_
  refine AOps.cons (op_store rfl rfl ty44 (vt rfl) (i := 3) rfl (vt rfl)) rfl ?_
  refine AOps.nil ?_
  refine AW.seq ?_
  obtain ⟨x4, hx4, h⟩ := bsome h
  refine AW.region ?_
  refine AOps.cons (op_build (ps := []) (x := (⟨0, []⟩ : Env)) rfl rfl rfl (by kernel_rfl) zr25 rfl) rfl ?_
  refine AOps.cons (op_move (A := rd (ksl kAtom) x2.1) rfl rfl (vt rfl)) rfl ?_
  refine AOps.cons (op_build (ps := []) (x := (Vector.replicate 24 zWide)) rfl rfl rfl (by kernel_rfl) zr31 rfl) rfl ?_
  refine AOps.cons (op_call (xs := [.const (Value.slice none 0 0), .tmp 13, .tmp 14, .tmp 15]) (c25 _ _ _ _ _ hx4) (Ent.mk Tryz.func25 rfl rfl) rfl rfl ⟨vnil, vt rfl, vt rfl, vt rfl, trivial⟩) rfl ?_
  refine AOps.cons (op_assign (A := rd (ksl kOut) x4) rfl rfl (vt rfl)) rfl ?_
  refine AOps.nil ?_
  refine AW.seq ?_
  obtain ⟨e5, he5, h⟩ := bsome h
  obtain ⟨e6, he6, h⟩ := bsome h
  obtain ⟨e7, he7, h⟩ := bsome h
  obtain ⟨e8, he8, h⟩ := bsome h
  obtain ⟨x9, hx9, h⟩ := bsome h
  obtain ⟨s10, hs10, h⟩ := bsome h
  obtain ⟨x11, hx11, h⟩ := bsome h
  refine AW.region ?_
  refine AOps.cons (op_move (A := rd (ksl kAtom) x2.1) rfl rfl (vt rfl)) rfl ?_
  refine AOps.cons (op_len' rfl rfl sl40 (vt rfl)) rfl ?_
  refine AOps.cons (op_eql rfl rfl (vt rfl) (vk rfl)) rfl ?_
  refine AOps.cons (op_move (A := rd kbool (decide ((x2.1.length : Int) = 2))) rfl rfl (vt rfl)) rfl ?_
  refine AOps.consG (OpG.guard rfl rfl rfl rfl rfl fun hq => op_move (A := rd (ksl kAtom) x2.1) rfl rfl (vt rfl)) ?_
  refine AOps.consG (OpG.guard rfl rfl rfl rfl rfl fun hq => op_indexs' rfl rfl sl40 (vgt rfl hq) (vk rfl) (opt_t he5 hq)) ?_
  refine AOps.consG (OpG.guard rfl rfl rfl rfl rfl fun hq => op_fieldp lAtom_1 rfl rfl fl48_1 (vgt rfl hq)) ?_
  refine AOps.consG (OpG.guard rfl rfl rfl rfl rfl fun hq => op_loadp rfl rfl ty4 (vgt rfl hq)) ?_
  refine AOps.cons (op_all rfl rfl (vt rfl) (vt rfl)) rfl ?_
  refine AOps.cons (op_move (A := rd kbool ((decide ((x2.1.length : Int) = 2)) && e5.Group)) rfl rfl (vt rfl)) rfl ?_
  refine AOps.consG (OpG.guard rfl rfl rfl rfl rfl fun hq => op_move (A := rd (ksl kAtom) x2.1) rfl rfl (vt rfl)) ?_
  refine AOps.consG (OpG.guard rfl rfl rfl rfl rfl fun hq => op_indexs' rfl rfl sl40 (vgt rfl hq) (vk rfl) (opt_t he6 hq)) ?_
  refine AOps.consG (OpG.guard rfl rfl rfl rfl rfl fun hq => op_fieldp lAtom_2 rfl rfl fl48_2 (vgt rfl hq)) ?_
  refine AOps.consG (OpG.guard rfl rfl rfl rfl rfl fun hq => op_loadp rfl rfl ty3 (vgt rfl hq)) ?_
  refine AOps.consG (OpG.guard rfl rfl rfl rfl rfl fun hq => op_eql rfl rfl (vgt rfl hq) (vk rfl)) ?_
  refine AOps.cons (op_all rfl rfl (vt rfl) (vt rfl)) rfl ?_
  refine AOps.cons (op_move (A := rd kbool (((decide ((x2.1.length : Int) = 2)) && e5.Group) && (decide (e6.Port = 7)))) rfl rfl (vt rfl)) rfl ?_
  refine AOps.consG (OpG.guard rfl rfl rfl rfl rfl fun hq => op_move (A := rd (ksl kAtom) x2.1) rfl rfl (vt rfl)) ?_
  refine AOps.consG (OpG.guard rfl rfl rfl rfl rfl fun hq => op_indexs' rfl rfl sl40 (vgt rfl hq) (vk rfl) (opt_t he7 hq)) ?_
  refine AOps.consG (OpG.guard rfl rfl rfl rfl rfl fun hq => op_fieldp lAtom_3 rfl rfl fl48_3 (vgt rfl hq)) ?_
  refine AOps.consG (OpG.guard rfl rfl rfl rfl rfl fun hq => op_loadp rfl rfl ty3 (vgt rfl hq)) ?_
  refine AOps.consG (OpG.guard rfl rfl rfl rfl rfl fun hq => op_eql rfl rfl (vgt rfl hq) (vk rfl)) ?_
  refine AOps.cons (op_all rfl rfl (vt rfl) (vt rfl)) rfl ?_
  refine AOps.cons (op_move (A := rd kbool ((((decide ((x2.1.length : Int) = 2)) && e5.Group) && (decide (e6.Port = 7))) && (decide (e7.Max = 0)))) rfl rfl (vt rfl)) rfl ?_
  refine AOps.consG (OpG.guard rfl rfl rfl rfl rfl fun hq => op_index' rfl rfl ar44 (vt rfl) (vk rfl) rfl) ?_
  refine AOps.consG (OpG.guard rfl rfl rfl rfl rfl fun hq => op_field lTern_1 rfl rfl fl42_1 (vgt rfl hq)) ?_
  refine AOps.consG (OpG.guard rfl rfl rfl rfl rfl fun hq => op_field lWide_1 rfl rfl fl29_1 (vgt rfl hq)) ?_
  refine AOps.consG (OpG.guard rfl rfl rfl rfl rfl fun hq => op_load rfl rfl ty27 (vgt rfl hq) (i := 3) rfl) ?_
  refine AOps.consG (OpG.guard rfl rfl rfl rfl rfl fun hq => op_eqlu rfl rfl (vgt rfl hq) (vku (4096 : BitVec 64) rfl)) ?_
  refine AOps.cons (op_all rfl rfl (vt rfl) (vt rfl)) rfl ?_
  refine AOps.cons (op_move (A := rd kbool (((((decide ((x2.1.length : Int) = 2)) && e5.Group) && (decide (e6.Port = 7))) && (decide (e7.Max = 0))) && (decide ((((Vector.get x2.2 (⟨5, by decide⟩ : _root_.Fin 24)).Mask).Lo) = (4096 : BitVec 64))))) rfl rfl (vt rfl)) rfl ?_
  refine AOps.consG (OpG.guard rfl rfl rfl rfl rfl fun hq => op_move (A := rd (ksl kOut) x4) rfl rfl (vt rfl)) ?_
  refine AOps.consG (OpG.guard rfl rfl rfl rfl rfl fun hq => op_len' rfl rfl sl34 (vgt rfl hq)) ?_
  refine AOps.consG (OpG.guard rfl rfl rfl rfl rfl fun hq => op_eql rfl rfl (vgt rfl hq) (vk rfl)) ?_
  refine AOps.cons (op_all rfl rfl (vt rfl) (vt rfl)) rfl ?_
  refine AOps.cons (op_move (A := rd kbool ((((((decide ((x2.1.length : Int) = 2)) && e5.Group) && (decide (e6.Port = 7))) && (decide (e7.Max = 0))) && (decide ((((Vector.get x2.2 (⟨5, by decide⟩ : _root_.Fin 24)).Mask).Lo) = (4096 : BitVec 64)))) && (decide ((x4.length : Int) = 1)))) rfl rfl (vt rfl)) rfl ?_
  refine AOps.consG (OpG.guard rfl rfl rfl rfl rfl fun hq => op_move (A := rd (ksl kOut) x4) rfl rfl (vt rfl)) ?_
  refine AOps.consG (OpG.guard rfl rfl rfl rfl rfl fun hq => op_indexs' rfl rfl sl34 (vgt rfl hq) (vk rfl) (opt_t he8 hq)) ?_
  refine AOps.consG (OpG.guard rfl rfl rfl rfl rfl fun hq => op_fieldp lOut_2 rfl rfl fl69_2 (vgt rfl hq)) ?_
  refine AOps.consG (OpG.guard rfl rfl rfl rfl rfl fun hq => op_indexp' rfl rfl ar31 (vgt rfl hq) (vk rfl) rfl) ?_
  refine AOps.consG (OpG.guard rfl rfl rfl rfl rfl fun hq => op_fieldp lWide_1 rfl rfl fl29_1 (vgt rfl hq)) ?_
  refine AOps.consG (OpG.guard rfl rfl rfl rfl rfl fun hq => op_loadp rfl rfl ty27 (vgt rfl hq)) ?_
  refine AOps.consG (OpG.guard rfl rfl rfl rfl rfl fun hq => op_eqlu rfl rfl (vgt rfl hq) (vku (4096 : BitVec 64) rfl)) ?_
  refine AOps.cons (op_all rfl rfl (vt rfl) (vt rfl)) rfl ?_
  refine AOps.cons (op_move (A := rd kbool (((((((decide ((x2.1.length : Int) = 2)) && e5.Group) && (decide (e6.Port = 7))) && (decide (e7.Max = 0))) && (decide ((((Vector.get x2.2 (⟨5, by decide⟩ : _root_.Fin 24)).Mask).Lo) = (4096 : BitVec 64)))) && (decide ((x4.length : Int) = 1))) && (decide (((Vector.get e8.Header (⟨5, by decide⟩ : _root_.Fin 24)).Lo) = (4096 : BitVec 64))))) rfl rfl (vt rfl)) rfl ?_
  refine AOps.consG (OpG.guard rfl rfl rfl rfl rfl fun hq => op_move (A := rd (ksl kAtom) x2.1) rfl rfl (vt rfl)) ?_
  refine AOps.consG (OpG.guard rfl rfl rfl rfl rfl fun hq => op_move (A := rd (ksl kAtom) x2.1) rfl rfl (vt rfl)) ?_
  refine AOps.consG (OpG.guard rfl rfl rfl rfl rfl fun hq => op_call (xs := [.tmp 62, .tmp 63]) (c44 _ _ _ (opt_t hx9 hq)) (Ent.mk Tryz.func44 rfl rfl) rfl rfl ⟨vgt rfl hq, vgt rfl hq, trivial⟩) ?_
  refine AOps.cons (op_all rfl rfl (vt rfl) (vt rfl)) rfl ?_
  refine AOps.cons (op_move (A := rd kbool ((((((((decide ((x2.1.length : Int) = 2)) && e5.Group) && (decide (e6.Port = 7))) && (decide (e7.Max = 0))) && (decide ((((Vector.get x2.2 (⟨5, by decide⟩ : _root_.Fin 24)).Mask).Lo) = (4096 : BitVec 64)))) && (decide ((x4.length : Int) = 1))) && (decide (((Vector.get e8.Header (⟨5, by decide⟩ : _root_.Fin 24)).Lo) = (4096 : BitVec 64)))) && x9)) rfl rfl (vt rfl)) rfl ?_
  refine AOps.consG (OpG.guard rfl rfl rfl rfl rfl fun hq => op_move (A := rd (ksl kAtom) x2.1) rfl rfl (vt rfl)) ?_
  refine AOps.consG (OpG.guard rfl rfl rfl rfl rfl fun hq => op_move (A := rd (ksl kAtom) x2.1) rfl rfl (vt rfl)) ?_
  refine AOps.consG (OpG.guard rfl rfl rfl rfl rfl fun hq => op_slice_l' (opt_t hs10 hq) rfl rfl sl40 (vgt rfl hq) (vk rfl)) ?_
  refine AOps.consG (OpG.guard rfl rfl rfl rfl rfl fun hq => op_call (xs := [.tmp 67, .tmp 69]) (c44 _ _ _ (opt_t hx11 hq)) (Ent.mk Tryz.func44 rfl rfl) rfl rfl ⟨vgt rfl hq, vgt rfl hq, trivial⟩) ?_
  refine AOps.consG (OpG.guard rfl rfl rfl rfl rfl fun hq => op_not rfl rfl (vgt rfl hq)) ?_
  refine AOps.cons (op_all rfl rfl (vt rfl) (vt rfl)) rfl ?_
  refine AOps.cons (op_assign (A := rd kbool (((((((((decide ((x2.1.length : Int) = 2)) && e5.Group) && (decide (e6.Port = 7))) && (decide (e7.Max = 0))) && (decide ((((Vector.get x2.2 (⟨5, by decide⟩ : _root_.Fin 24)).Mask).Lo) = (4096 : BitVec 64)))) && (decide ((x4.length : Int) = 1))) && (decide (((Vector.get e8.Header (⟨5, by decide⟩ : _root_.Fin 24)).Lo) = (4096 : BitVec 64)))) && x9) && (!x11))) rfl rfl (vt rfl)) rfl ?_
  refine AOps.nil ?_
  refine AW.ret ?_
  obtain rfl := Option.some.inj h
  exact ret1 Tryz.results24 rfl (out_tmp rfl)
-- weirbox/weirboxref32.Out
def F26_l1 (a3 : (List Atom)) (h4 : (Vector Wide 24)) (l1 : (List Group)) (e2 : Env) : Nat → (List Out) → Int → Option (List Out)
  | 0, _, _ => none
  | m14 + 1, l11, i13 => (bif (decide (i13 < (a3.length : Int))) then (lget a3 i13).bind fun e15 => (F48 e15.Rewrite h4).bind fun x16 => (lget a3 i13).bind fun e18 => (bif e18.Group then (lget a3 i13).bind fun e19 => (F11 l1 e2 e19.Port x16).bind fun x20 => (appd l11 x20).bind fun l21 => (F26_l1 a3 h4 l1 e2 m14) l21 (IntKind.i64.wrap (i13 + 1)) else (lget a3 i13).bind fun e23 => (lget a3 i13).bind fun e24 => (appd l11 [(⟨e23.Port, e24.Max, x16⟩ : Out)]).bind fun l25 => (F26_l1 a3 h4 l1 e2 m14) l25 (IntKind.i64.wrap (i13 + 1))) else some l11)
def F26 (l1 : (List Group)) (e2 : Env) (a3 : (List Atom)) (h4 : (Vector Wide 24)) : Option (List Out) :=
  F26_l1 a3 h4 l1 e2 ((((a3.length : Int) : Int) - 0).toNat + 1) [] 0
theorem c26 (l1 : (List Group)) (e2 : Env) (a3 : (List Atom)) (h4 : (Vector Wide 24)) (r : (List Out)) (h : F26 l1 e2 a3 h4 = some r) : PCon Tryz.prog 26 [rd (ksl kGroup) l1, rd kEnv e2, rd (ksl kAtom) a3, rd (karr 24 kWide) h4] (rd (ksl kOut) r) := by
  refine PCon.of (Con.intro0 Tryz.func26 rfl Tryz.ntmps26 rfl fun w H => ?_)
  unfold F26 at h
  refine AW.seq ?_
  refine AW.region ?_
  refine AOps.consT rfl (op_box 6 rfl rfl (vt rfl)) ?_
  rintro _ ⟨g5, rfl⟩
  refine AOps.consT rfl (op_box 8 rfl rfl (vt rfl)) ?_
  rintro _ ⟨g6, rfl⟩
  refine AOps.cons (op_assign (A := rd (ksl kOut) []) rfl rfl vnil) rfl ?_
  refine AOps.nil ?_
  refine AW.seq ?_
  refine AW.region ?_
  refine AOps.consT rfl (op_buildSlice 1001 (ps := []) (l := []) rfl rfl sl34 zr69 rfl rfl rfl rfl) ?_
  rintro _ ⟨v7, rfl⟩
  refine AOps.cons (op_assign (A := raw v7) rfl rfl (vt rfl)) rfl ?_
  refine AOps.nil ?_
  refine AW.seq ?_
  refine AW.seq ?_
  refine AW.region ?_
  refine AOps.cons (op_assign (A := rd (kint .i64) 0) rfl rfl (vk rfl)) rfl ?_
  refine AOps.nil ?_
  refine AW.block ?_
  refine AW.loopG (d := []) (ν := Nat × (List Out) × Int × Value) (fun n => True ∧ F26_l1 a3 h4 l1 e2 n.1 n.2.1 n.2.2.1 = some r) (fun n => n.1) (fun n => [(0, rd (ksl kGroup) l1), (2, rd (ksl kAtom) a3), (5, ptrL g5 (Lens.id kEnv)), (7, ptrL g6 (Lens.id (karr 24 kWide))), (9, raw n.2.2.2), (10, rd (kint .i64) n.2.2.1)]) (fun n => [(6, Blk g5 25 kEnv e2), (8, Blk g6 31 (karr 24 kWide) h4), (1001, Row n.2.2.2 69 kOut n.2.1)]) (((((a3.length : Int) : Int) - 0).toNat + 1), [], 0, v7) ⟨trivial, h⟩ ⟨rfl, ⟨rfl, rfl, rfl, rfl, rfl, rfl, trivial⟩, ⟨rfl, rfl, rfl, trivial⟩⟩ ?_
  rintro ⟨m14, l11, i13, v12⟩ ⟨hsf1, h⟩
  change True at hsf1
  change F26_l1 a3 h4 l1 e2 m14 l11 i13 = some r at h
  change AW _ _ _ ⟨slots [(0, rd (ksl kGroup) l1), (2, rd (ksl kAtom) a3), (5, ptrL g5 (Lens.id kEnv)), (7, ptrL g6 (Lens.id (karr 24 kWide))), (9, raw v12), (10, rd (kint .i64) i13)], ress [(6, Blk g5 25 kEnv e2), (8, Blk g6 31 (karr 24 kWide) h4), (1001, Row v12 69 kOut l11)], _⟩
  cases m14 with
  | zero => cases h
  | succ m14 =>
    unfold F26_l1 at h
    generalize hgo1 : F26_l1 a3 h4 l1 e2 m14 = go1 at h
    refine AW.seq ?_
    refine AW.seq ?_
    refine AW.region ?_
    refine AOps.cons (op_move (A := rd (kint .i64) i13) rfl rfl (vt rfl)) rfl ?_
    refine AOps.cons (op_move (A := rd (ksl kAtom) a3) rfl rfl (vt rfl)) rfl ?_
    refine AOps.cons (op_len' rfl rfl sl40 (vt rfl)) rfl ?_
    refine AOps.cons (op_lss rfl rfl (vt rfl) (vt rfl)) rfl ?_
    refine AOps.nil ?_
    refine AW.cond (vt rfl) (fun hc => ?_) (fun hc => ?_)
    · have h := cond_t hc h
      refine AW.skip ?_
      refine AW.seq ?_
      refine AW.block ?_
      refine AW.seq ?_
      obtain ⟨e15, he15, h⟩ := bsome h
      obtain ⟨x16, hx16, h⟩ := bsome h
      refine AW.regionAny [⟨[2], [19], [], []⟩, ⟨[10], [20], [], []⟩, ⟨[19, 20], [21], [], []⟩, ⟨[21], [22], [], []⟩, ⟨[22], [23], [], []⟩, ⟨[7], [24], [8], []⟩, ⟨[23, 24], [25], [], []⟩, ⟨[], [11], [], []⟩, ⟨[11, 25], [11], [], []⟩] mixed (by kernel_rfl) ?_
      refine SeqA.cons (loc [2] [] rfl rfl fun S hs hr => op_move (A := rd (ksl kAtom) a3) rfl rfl (vt ((hs 2 rfl).trans rfl))) ⟨rfl, rfl, rfl, rfl⟩ ?_
      refine SeqA.cons (loc [10] [] rfl rfl fun S hs hr => op_move (A := rd (kint .i64) i13) rfl rfl (vt ((hs 10 rfl).trans rfl))) ⟨rfl, rfl, rfl, rfl⟩ ?_
      refine SeqA.cons (loc [19, 20] [] rfl rfl fun S hs hr => op_indexs' rfl rfl sl40 (vt ((hs 19 rfl).trans rfl)) (vt ((hs 20 rfl).trans rfl)) he15) ⟨rfl, rfl, rfl, rfl⟩ ?_
      refine SeqA.cons (loc [21] [] rfl rfl fun S hs hr => op_fieldp lAtom_0 rfl rfl fl48_0 (vt ((hs 21 rfl).trans rfl))) ⟨rfl, rfl, rfl, rfl⟩ ?_
      refine SeqA.cons (loc [22] [] rfl rfl fun S hs hr => op_loadp rfl rfl ty44 (vt ((hs 22 rfl).trans rfl))) ⟨rfl, rfl, rfl, rfl⟩ ?_
      refine SeqA.cons (loc [7] [8] rfl rfl fun S hs hr => op_load rfl rfl ty31 (vt ((hs 7 rfl).trans rfl)) (i := 8) ((hr 8 rfl).trans rfl)) ⟨rfl, rfl, rfl, rfl⟩ ?_
      refine SeqA.cons (loc [23, 24] [] rfl rfl fun S hs hr => op_call (xs := [.tmp 23, .tmp 24]) (c48 _ _ _ hx16) (Ent.mk Tryz.func48 rfl rfl) rfl rfl ⟨vt ((hs 23 rfl).trans rfl), vt ((hs 24 rfl).trans rfl), trivial⟩) ⟨rfl, rfl, rfl, rfl⟩ ?_
      refine SeqA.cons (locs (us := [(11, ownP 31 (karr 24 kWide) (Vector.replicate 24 zWide))]) (ur := []) [] [] rfl fun S hs hr => op_allocO rfl rfl rfl zr31) ⟨rfl, rfl, rfl, rfl⟩ ?_
      refine SeqA.cons (locs (us := [(11, ownP 31 (karr 24 kWide) x16)]) (ur := []) [11, 25] [] rfl fun S hs hr => op_storeO rfl rfl ty31 ((hs 11 rfl).trans rfl) (vt ((hs 25 rfl).trans rfl))) ⟨rfl, rfl, rfl, rfl⟩ ?_
      refine AW.unpackP 11 12 rfl rfl fun g17 => ?_
      refine AW.seq ?_
      obtain ⟨e18, he18, h⟩ := bsome h
      refine AW.region ?_
      refine AOps.cons (op_move (A := rd (ksl kAtom) a3) rfl rfl (vt rfl)) rfl ?_
      refine AOps.cons (op_move (A := rd (kint .i64) i13) rfl rfl (vt rfl)) rfl ?_
      refine AOps.cons (op_indexs' rfl rfl sl40 (vt rfl) (vt rfl) he18) rfl ?_
      refine AOps.cons (op_fieldp lAtom_1 rfl rfl fl48_1 (vt rfl)) rfl ?_
      refine AOps.cons (op_loadp rfl rfl ty4 (vt rfl)) rfl ?_
      refine AOps.nil ?_
      refine AW.cond (vt rfl) (fun hc => ?_) (fun hc => ?_)
      · have h := cond_t hc h
        obtain ⟨e19, he19, h⟩ := bsome h
        obtain ⟨x20, hx20, h⟩ := bsome h
        obtain ⟨l21, hl21, h⟩ := bsome h
        refine AW.regionAny [⟨[9], [31], [], []⟩, ⟨[0], [32], [], []⟩, ⟨[5], [33], [6], []⟩, ⟨[2], [34], [], []⟩, ⟨[10], [35], [], []⟩, ⟨[34, 35], [36], [], []⟩, ⟨[36], [37], [], []⟩, ⟨[37], [38], [], []⟩, ⟨[11], [39], [12], []⟩, ⟨[32, 33, 38, 39], [40], [], []⟩, ⟨[31, 40], [41], [1001], [1001]⟩, ⟨[41], [41, 9], [1002], []⟩] mixed (by kernel_rfl) ?_
        refine SeqA.cons (loc [9] [] rfl rfl fun S hs hr => op_move (A := raw v12) rfl rfl (vt ((hs 9 rfl).trans rfl))) ⟨rfl, rfl, rfl, rfl⟩ ?_
        refine SeqA.cons (loc [0] [] rfl rfl fun S hs hr => op_move (A := rd (ksl kGroup) l1) rfl rfl (vt ((hs 0 rfl).trans rfl))) ⟨rfl, rfl, rfl, rfl⟩ ?_
        refine SeqA.cons (loc [5] [6] rfl rfl fun S hs hr => op_load rfl rfl ty25 (vt ((hs 5 rfl).trans rfl)) (i := 6) ((hr 6 rfl).trans rfl)) ⟨rfl, rfl, rfl, rfl⟩ ?_
        refine SeqA.cons (loc [2] [] rfl rfl fun S hs hr => op_move (A := rd (ksl kAtom) a3) rfl rfl (vt ((hs 2 rfl).trans rfl))) ⟨rfl, rfl, rfl, rfl⟩ ?_
        refine SeqA.cons (loc [10] [] rfl rfl fun S hs hr => op_move (A := rd (kint .i64) i13) rfl rfl (vt ((hs 10 rfl).trans rfl))) ⟨rfl, rfl, rfl, rfl⟩ ?_
        refine SeqA.cons (loc [34, 35] [] rfl rfl fun S hs hr => op_indexs' rfl rfl sl40 (vt ((hs 34 rfl).trans rfl)) (vt ((hs 35 rfl).trans rfl)) he19) ⟨rfl, rfl, rfl, rfl⟩ ?_
        refine SeqA.cons (loc [36] [] rfl rfl fun S hs hr => op_fieldp lAtom_2 rfl rfl fl48_2 (vt ((hs 36 rfl).trans rfl))) ⟨rfl, rfl, rfl, rfl⟩ ?_
        refine SeqA.cons (loc [37] [] rfl rfl fun S hs hr => op_loadp rfl rfl ty3 (vt ((hs 37 rfl).trans rfl))) ⟨rfl, rfl, rfl, rfl⟩ ?_
        refine SeqA.cons (loc [11] [12] rfl rfl fun S hs hr => op_load rfl rfl ty31 (vt ((hs 11 rfl).trans rfl)) (i := 12) ((hr 12 rfl).trans rfl)) ⟨rfl, rfl, rfl, rfl⟩ ?_
        refine SeqA.cons (loc [32, 33, 38, 39] [] rfl rfl fun S hs hr => op_call (xs := [.tmp 32, .tmp 33, .tmp 38, .tmp 39]) (c11 _ _ _ _ _ hx20) (Ent.mk Tryz.func11 rfl rfl) rfl rfl ⟨vt ((hs 32 rfl).trans rfl), vt ((hs 33 rfl).trans rfl), vt ((hs 38 rfl).trans rfl), vt ((hs 39 rfl).trans rfl), trivial⟩) ⟨rfl, rfl, rfl, rfl⟩ ?_
        refine SeqA.cons (locs (us := [(41, ownR 69 kOut l21)]) (ur := [(1001, emp)]) [31, 40] [1001] rfl fun S hs hr => op_appendO 1001 hl21 rfl rfl rfl el34 (vt ((hs 31 rfl).trans rfl)) ((hr 1001 rfl).trans rfl) (vt ((hs 40 rfl).trans rfl))) ⟨rfl, rfl, rfl, rfl⟩ ?_
        refine SeqA.cons (locs (us := [(41, top), (9, ownR 69 kOut l21)]) (ur := []) [41] [1002] rfl fun S hs hr => op_assignO 1002 rfl rfl rfl rfl ((hs 41 rfl).trans rfl) ((hr 1002 rfl).trans rfl)) ⟨rfl, rfl, rfl, rfl⟩ ?_
        refine AW.unpackR 9 1001 rfl rfl fun v22 => ?_
        refine AW.region ?_
        refine AOps.cons (op_move (A := rd (kint .i64) i13) rfl rfl (vt rfl)) rfl ?_
        refine AOps.cons (op_add rfl rfl (vt rfl) (vk rfl)) rfl ?_
        refine AOps.cons (op_assign (A := rd (kint .i64) (IntKind.i64.wrap (i13 + 1))) rfl rfl (vt rfl)) rfl ?_
        refine AOps.nil ?_
        subst hgo1
        exact ⟨(m14, l21, (IntKind.i64.wrap (i13 + 1)), v22), Nat.lt_succ_self _, ⟨trivial, h⟩, ⟨rfl, ⟨rfl, rfl, rfl, rfl, rfl, rfl, trivial⟩, ⟨rfl, rfl, rfl, trivial⟩⟩⟩
      · have h := cond_f hc h
        obtain ⟨e23, he23, h⟩ := bsome h
        obtain ⟨e24, he24, h⟩ := bsome h
        obtain ⟨l25, hl25, h⟩ := bsome h
        refine AW.regionAny [⟨[9], [42], [], []⟩, ⟨[2], [43], [], []⟩, ⟨[10], [44], [], []⟩, ⟨[43, 44], [45], [], []⟩, ⟨[45], [46], [], []⟩, ⟨[46], [47], [], []⟩, ⟨[2], [48], [], []⟩, ⟨[10], [49], [], []⟩, ⟨[48, 49], [50], [], []⟩, ⟨[50], [51], [], []⟩, ⟨[51], [52], [], []⟩, ⟨[11], [53], [12], []⟩, ⟨[47, 52, 53], [54], [], []⟩, ⟨[54], [55], [], []⟩, ⟨[42, 55], [56], [1001], [1001]⟩, ⟨[56], [56, 9], [1003], []⟩] mixed (by kernel_rfl) ?_
        refine SeqA.cons (loc [9] [] rfl rfl fun S hs hr => op_move (A := raw v12) rfl rfl (vt ((hs 9 rfl).trans rfl))) ⟨rfl, rfl, rfl, rfl⟩ ?_
        refine SeqA.cons (loc [2] [] rfl rfl fun S hs hr => op_move (A := rd (ksl kAtom) a3) rfl rfl (vt ((hs 2 rfl).trans rfl))) ⟨rfl, rfl, rfl, rfl⟩ ?_
        refine SeqA.cons (loc [10] [] rfl rfl fun S hs hr => op_move (A := rd (kint .i64) i13) rfl rfl (vt ((hs 10 rfl).trans rfl))) ⟨rfl, rfl, rfl, rfl⟩ ?_
        refine SeqA.cons (loc [43, 44] [] rfl rfl fun S hs hr => op_indexs' rfl rfl sl40 (vt ((hs 43 rfl).trans rfl)) (vt ((hs 44 rfl).trans rfl)) he23) ⟨rfl, rfl, rfl, rfl⟩ ?_
        refine SeqA.cons (loc [45] [] rfl rfl fun S hs hr => op_fieldp lAtom_2 rfl rfl fl48_2 (vt ((hs 45 rfl).trans rfl))) ⟨rfl, rfl, rfl, rfl⟩ ?_
        refine SeqA.cons (loc [46] [] rfl rfl fun S hs hr => op_loadp rfl rfl ty3 (vt ((hs 46 rfl).trans rfl))) ⟨rfl, rfl, rfl, rfl⟩ ?_
        refine SeqA.cons (loc [2] [] rfl rfl fun S hs hr => op_move (A := rd (ksl kAtom) a3) rfl rfl (vt ((hs 2 rfl).trans rfl))) ⟨rfl, rfl, rfl, rfl⟩ ?_
        refine SeqA.cons (loc [10] [] rfl rfl fun S hs hr => op_move (A := rd (kint .i64) i13) rfl rfl (vt ((hs 10 rfl).trans rfl))) ⟨rfl, rfl, rfl, rfl⟩ ?_
        refine SeqA.cons (loc [48, 49] [] rfl rfl fun S hs hr => op_indexs' rfl rfl sl40 (vt ((hs 48 rfl).trans rfl)) (vt ((hs 49 rfl).trans rfl)) he24) ⟨rfl, rfl, rfl, rfl⟩ ?_
        refine SeqA.cons (loc [50] [] rfl rfl fun S hs hr => op_fieldp lAtom_3 rfl rfl fl48_3 (vt ((hs 50 rfl).trans rfl))) ⟨rfl, rfl, rfl, rfl⟩ ?_
        refine SeqA.cons (loc [51] [] rfl rfl fun S hs hr => op_loadp rfl rfl ty3 (vt ((hs 51 rfl).trans rfl))) ⟨rfl, rfl, rfl, rfl⟩ ?_
        refine SeqA.cons (loc [11] [12] rfl rfl fun S hs hr => op_load rfl rfl ty31 (vt ((hs 11 rfl).trans rfl)) (i := 12) ((hr 12 rfl).trans rfl)) ⟨rfl, rfl, rfl, rfl⟩ ?_
        refine SeqA.cons (loc [47, 52, 53] [] rfl rfl fun S hs hr => op_build (ps := [(0, .tmp 47), (1, .tmp 52), (2, .tmp 53)]) (x := (⟨e23.Port, e24.Max, x16⟩ : Out)) rfl rfl rfl (by kernel_rfl) zr69 ⟨_, _, lOut_0, _, by kernel_rfl, (vt ((hs 47 rfl).trans rfl)), _, _, lOut_1, _, by kernel_rfl, (vt ((hs 52 rfl).trans rfl)), _, _, lOut_2, _, by kernel_rfl, (vt ((hs 53 rfl).trans rfl)), rfl⟩) ⟨rfl, rfl, rfl, rfl⟩ ?_
        refine SeqA.cons (loc [54] [] rfl rfl fun S hs hr => op_buildSliceR (ps := [(0, .tmp 54)]) (l := [(⟨e23.Port, e24.Max, x16⟩ : Out)]) rfl rfl sl34 zr69 rfl rfl ⟨_, _, Lens.idx 1 kOut 0 (by decide), _, rfl, (vt ((hs 54 rfl).trans rfl)), rfl⟩ rfl) ⟨rfl, rfl, rfl, rfl⟩ ?_
        refine SeqA.cons (locs (us := [(56, ownR 69 kOut l25)]) (ur := [(1001, emp)]) [42, 55] [1001] rfl fun S hs hr => op_appendO 1001 hl25 rfl rfl rfl el34 (vt ((hs 42 rfl).trans rfl)) ((hr 1001 rfl).trans rfl) (vt ((hs 55 rfl).trans rfl))) ⟨rfl, rfl, rfl, rfl⟩ ?_
        refine SeqA.cons (locs (us := [(56, top), (9, ownR 69 kOut l25)]) (ur := []) [56] [1003] rfl fun S hs hr => op_assignO 1003 rfl rfl rfl rfl ((hs 56 rfl).trans rfl) ((hr 1003 rfl).trans rfl)) ⟨rfl, rfl, rfl, rfl⟩ ?_
        refine AW.unpackR 9 1001 rfl rfl fun v26 => ?_
        refine AW.region ?_
        refine AOps.cons (op_move (A := rd (kint .i64) i13) rfl rfl (vt rfl)) rfl ?_
        refine AOps.cons (op_add rfl rfl (vt rfl) (vk rfl)) rfl ?_
        refine AOps.cons (op_assign (A := rd (kint .i64) (IntKind.i64.wrap (i13 + 1))) rfl rfl (vt rfl)) rfl ?_
        refine AOps.nil ?_
        subst hgo1
        exact ⟨(m14, l25, (IntKind.i64.wrap (i13 + 1)), v26), Nat.lt_succ_self _, ⟨trivial, h⟩, ⟨rfl, ⟨rfl, rfl, rfl, rfl, rfl, rfl, trivial⟩, ⟨rfl, rfl, rfl, trivial⟩⟩⟩
    · have h := cond_f hc h
      refine AW.exit ?_
      refine AW.seq ?_
      refine AW.region ?_
      refine AOps.cons (op_move (A := raw v12) rfl rfl (vt rfl)) rfl ?_
      refine AOps.cons (op_assign (A := raw v12) rfl rfl (vt rfl)) rfl ?_
      refine AOps.nil ?_
      refine AW.freezes [8, 9, 57] 1001 rfl ⟨rfl, rfl, rfl, trivial⟩ rfl ?_
      refine AW.ret ?_
      obtain rfl := Option.some.inj h
      exact ret1 Tryz.results26 rfl (out_tmp rfl)
-- weirbox/weirboxlaw32.AtomOuts
def F5 (l1 : (List Group)) (e2 : Env) (a3 : (List Atom)) (h4 : (Vector Wide 24)) : Option Bool :=
  (F22 l1 9 3).bind fun x7 => (opt (!(!x7)) (F23 a3)).bind fun x8 => (bif (((!x7) || (!x8)) || (decide ((e2.Down.length : Int) > 20))) then (F24).bind fun x9 => some x9 else (F25 l1 e2 a3 h4).bind fun x10 => (F26 l1 e2 a3 h4).bind fun x11 => (F12 x10 x11).bind fun x12 => (opt x12 (F24)).bind fun x13 => some (x12 && x13))
theorem c5 (l1 : (List Group)) (e2 : Env) (a3 : (List Atom)) (h4 : (Vector Wide 24)) (r : Bool) (h : F5 l1 e2 a3 h4 = some r) : PCon Tryz.prog 5 [rd (ksl kGroup) l1, rd kEnv e2, rd (ksl kAtom) a3, rd (karr 24 kWide) h4] (rd kbool r) := by
  refine PCon.of (Con.intro0 Tryz.func5 rfl Tryz.ntmps5 rfl fun w H => ?_)
  unfold F5 at h
  refine AW.seq ?_
  refine AW.region ?_
  refine AOps.consT rfl (op_box 6 rfl rfl (vt rfl)) ?_
  rintro _ ⟨g5, rfl⟩
  refine AOps.consT rfl (op_box 8 rfl rfl (vt rfl)) ?_
  rintro _ ⟨g6, rfl⟩
  refine AOps.cons (op_assign (A := rd kbool false) rfl rfl vb) rfl ?_
  refine AOps.nil ?_
  refine AW.seq ?_
  refine AW.seq ?_
  obtain ⟨x7, hx7, h⟩ := bsome h
  obtain ⟨x8, hx8, h⟩ := bsome h
  refine AW.region ?_
  refine AOps.cons (op_move (A := rd (ksl kGroup) l1) rfl rfl (vt rfl)) rfl ?_
  refine AOps.cons (op_call (xs := [.tmp 9, .const (Value.int IntKind.i64 9), .const (Value.int IntKind.i64 3)]) (c22 _ _ _ _ hx7) (Ent.mk Tryz.func22 rfl rfl) rfl rfl ⟨vt rfl, vk rfl, vk rfl, trivial⟩) rfl ?_
  refine AOps.cons (op_not rfl rfl (vt rfl)) rfl ?_
  refine AOps.cons (op_move (A := rd kbool (!x7)) rfl rfl (vt rfl)) rfl ?_
  refine AOps.consG (OpG.guard rfl rfl rfl rfl rfl fun hq => op_move (A := rd (ksl kAtom) a3) rfl rfl (vt rfl)) ?_
  refine AOps.consG (OpG.guard rfl rfl rfl rfl rfl fun hq => op_call (xs := [.tmp 13]) (c23 _ _ (opt_f hx8 hq)) (Ent.mk Tryz.func23 rfl rfl) rfl rfl ⟨vgt rfl hq, trivial⟩) ?_
  refine AOps.consG (OpG.guard rfl rfl rfl rfl rfl fun hq => op_not rfl rfl (vgt rfl hq)) ?_
  refine AOps.cons (op_any rfl rfl (vt rfl) (vt rfl)) rfl ?_
  refine AOps.cons (op_move (A := rd kbool ((!x7) || (!x8))) rfl rfl (vt rfl)) rfl ?_
  refine AOps.consG (OpG.guard rfl rfl rfl rfl rfl fun hq => op_field lEnv_1 rfl rfl fl25_1 (vt rfl)) ?_
  refine AOps.consG (OpG.guard rfl rfl rfl rfl rfl fun hq => op_load rfl rfl ty23 (vgt rfl hq) (i := 6) rfl) ?_
  refine AOps.consG (OpG.guard rfl rfl rfl rfl rfl fun hq => op_len' rfl rfl sl23 (vgt rfl hq)) ?_
  refine AOps.consG (OpG.guard rfl rfl rfl rfl rfl fun hq => op_gtr rfl rfl (vgt rfl hq) (vk rfl)) ?_
  refine AOps.cons (op_any rfl rfl (vt rfl) (vt rfl)) rfl ?_
  refine AOps.nil ?_
  refine AW.cond (vt rfl) (fun hc => ?_) (fun hc => ?_)
  · have h := cond_t hc h
    refine AW.seq ?_
    obtain ⟨x9, hx9, h⟩ := bsome h
    refine AW.region ?_
    refine AOps.cons (op_call (xs := []) (c24 _ hx9) (Ent.mk Tryz.func24 rfl rfl) rfl rfl trivial) rfl ?_
    refine AOps.cons (op_assign (A := rd kbool x9) rfl rfl (vt rfl)) rfl ?_
    refine AOps.nil ?_
    refine AW.ret ?_
    obtain rfl := Option.some.inj h
    exact ret1 Tryz.results5 rfl (out_tmp rfl)
  · have h := cond_f hc h
    refine AW.skip ?_
    refine AW.seq ?_
    obtain ⟨x10, hx10, h⟩ := bsome h
    obtain ⟨x11, hx11, h⟩ := bsome h
    obtain ⟨x12, hx12, h⟩ := bsome h
    obtain ⟨x13, hx13, h⟩ := bsome h
    refine AW.regionAny [⟨[0], [24], [], []⟩, ⟨[5], [25], [6], []⟩, ⟨[2], [26], [], []⟩, ⟨[7], [27], [8], []⟩, ⟨[24, 25, 26, 27], [28], [], []⟩, ⟨[0], [29], [], []⟩, ⟨[5], [30], [6], []⟩, ⟨[2], [31], [], []⟩, ⟨[7], [32], [8], []⟩, ⟨[29, 30, 31, 32], [33], [], []⟩, ⟨[28, 33], [34], [], []⟩, ⟨[34], [35], [], []⟩, ⟨[35], [36], [], []⟩, ⟨[36, 35], [37], [], []⟩, ⟨[37], [8], [], []⟩] mixed (by kernel_rfl) ?_
    refine SeqA.cons (loc [0] [] rfl rfl fun S hs hr => op_move (A := rd (ksl kGroup) l1) rfl rfl (vt ((hs 0 rfl).trans rfl))) ⟨rfl, rfl, rfl, rfl⟩ ?_
    refine SeqA.cons (loc [5] [6] rfl rfl fun S hs hr => op_load rfl rfl ty25 (vt ((hs 5 rfl).trans rfl)) (i := 6) ((hr 6 rfl).trans rfl)) ⟨rfl, rfl, rfl, rfl⟩ ?_
    refine SeqA.cons (loc [2] [] rfl rfl fun S hs hr => op_move (A := rd (ksl kAtom) a3) rfl rfl (vt ((hs 2 rfl).trans rfl))) ⟨rfl, rfl, rfl, rfl⟩ ?_
    refine SeqA.cons (loc [7] [8] rfl rfl fun S hs hr => op_load rfl rfl ty31 (vt ((hs 7 rfl).trans rfl)) (i := 8) ((hr 8 rfl).trans rfl)) ⟨rfl, rfl, rfl, rfl⟩ ?_
    refine SeqA.cons (loc [24, 25, 26, 27] [] rfl rfl fun S hs hr => op_call (xs := [.tmp 24, .tmp 25, .tmp 26, .tmp 27]) (c25 _ _ _ _ _ hx10) (Ent.mk Tryz.func25 rfl rfl) rfl rfl ⟨vt ((hs 24 rfl).trans rfl), vt ((hs 25 rfl).trans rfl), vt ((hs 26 rfl).trans rfl), vt ((hs 27 rfl).trans rfl), trivial⟩) ⟨rfl, rfl, rfl, rfl⟩ ?_
    refine SeqA.cons (loc [0] [] rfl rfl fun S hs hr => op_move (A := rd (ksl kGroup) l1) rfl rfl (vt ((hs 0 rfl).trans rfl))) ⟨rfl, rfl, rfl, rfl⟩ ?_
    refine SeqA.cons (loc [5] [6] rfl rfl fun S hs hr => op_load rfl rfl ty25 (vt ((hs 5 rfl).trans rfl)) (i := 6) ((hr 6 rfl).trans rfl)) ⟨rfl, rfl, rfl, rfl⟩ ?_
    refine SeqA.cons (loc [2] [] rfl rfl fun S hs hr => op_move (A := rd (ksl kAtom) a3) rfl rfl (vt ((hs 2 rfl).trans rfl))) ⟨rfl, rfl, rfl, rfl⟩ ?_
    refine SeqA.cons (loc [7] [8] rfl rfl fun S hs hr => op_load rfl rfl ty31 (vt ((hs 7 rfl).trans rfl)) (i := 8) ((hr 8 rfl).trans rfl)) ⟨rfl, rfl, rfl, rfl⟩ ?_
    refine SeqA.cons (loc [29, 30, 31, 32] [] rfl rfl fun S hs hr => op_call (xs := [.tmp 29, .tmp 30, .tmp 31, .tmp 32]) (c26 _ _ _ _ _ hx11) (Ent.mk Tryz.func26 rfl rfl) rfl rfl ⟨vt ((hs 29 rfl).trans rfl), vt ((hs 30 rfl).trans rfl), vt ((hs 31 rfl).trans rfl), vt ((hs 32 rfl).trans rfl), trivial⟩) ⟨rfl, rfl, rfl, rfl⟩ ?_
    refine SeqA.cons (loc [28, 33] [] rfl rfl fun S hs hr => op_call (xs := [.tmp 28, .tmp 33]) (c12 _ _ _ hx12) (Ent.mk Tryz.func12 rfl rfl) rfl rfl ⟨vt ((hs 28 rfl).trans rfl), vt ((hs 33 rfl).trans rfl), trivial⟩) ⟨rfl, rfl, rfl, rfl⟩ ?_
    refine SeqA.cons (loc [34] [] rfl rfl fun S hs hr => op_move (A := rd kbool x12) rfl rfl (vt ((hs 34 rfl).trans rfl))) ⟨rfl, rfl, rfl, rfl⟩ ?_
    refine SeqA.cons (locg [35] [] rfl rfl rfl rfl rfl rfl rfl fun hq S hs hr => op_call (xs := []) (c24 _ (opt_t hx13 hq)) (Ent.mk Tryz.func24 rfl rfl) rfl rfl trivial) ⟨rfl, rfl, rfl, rfl⟩ ?_
    refine SeqA.cons (loc [36, 35] [] rfl rfl fun S hs hr => op_all rfl rfl (vt ((hs 35 rfl).trans rfl)) (vt ((hs 36 rfl).trans rfl))) ⟨rfl, rfl, rfl, rfl⟩ ?_
    refine SeqA.cons (loc [37] [] rfl rfl fun S hs hr => op_assign (A := rd kbool (x12 && x13)) rfl rfl (vt ((hs 37 rfl).trans rfl))) ⟨rfl, rfl, rfl, rfl⟩ ?_
    refine AW.ret ?_
    obtain rfl := Option.some.inj h
    exact ret1 Tryz.results5 rfl (out_tmp rfl)
end Go.Proofs.YtokmmcflinnfiaaGreat.W
