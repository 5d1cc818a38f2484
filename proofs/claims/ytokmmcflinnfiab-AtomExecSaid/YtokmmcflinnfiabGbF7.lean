/- GbF7: a part of the proof. -/
import Derived.Test.YtokmmcflinnfiabGbF6
set_option linter.unusedVariables false
set_option maxRecDepth 4000
set_option linter.unusedSimpArgs false
namespace Go.Proofs.Ytokmmcflinnfiab.W
open Go Go.Wb
-- weirbox/atom.Out$1
def F35 (x1 : Atom) (c2 : (Vector Wide 24)) (c3 : (List Out)) (c6 : (List Group)) (c7 : Env) : Option (List Out) :=
  (F14 x1.Rewrite c2).bind fun x9 => (bif x1.Group then (F36 c6 c7 x1.Port x9).bind fun x11 => (appd c3 x11).bind fun l12 => some l12 else (appd c3 [(⟨x1.Port, x1.Max, x9⟩ : Out)]).bind fun l14 => some l14)
theorem c35 (g4 : Nat) (x1 : Atom) (c2 : (Vector Wide 24)) (c3 : (List Out)) (c6 : (List Group)) (c7 : Env) (r : (List Out)) (h : F35 x1 c2 c3 c6 c7 = some r) : Con Try.prog 35 [rd kAtom x1, rp (karr 24 kWide) c2, ptrL g4 (Lens.id kraw), rp (ksl kGroup) c6, rp kEnv c7] (BoxF g4 46 kraw (fun v => v) 59 kOut c3) (fun _ : Unit => top) (fun _ => BoxF g4 46 kraw (fun v => v) 59 kOut r) := by
  refine Con.intro Try.func35 rfl Try.ntmps35 rfl fun w H X => ?_
  unfold F35 at h
  refine AW.unboxF 0 2019 (by decide) rfl rfl fun v5 => ?_
  refine AW.seq ?_
  refine AW.region ?_
  refine AOps.consT rfl (op_box 6 rfl rfl (vt rfl)) ?_
  rintro _ ⟨g8, rfl⟩
  refine AOps.nil ?_
  refine AW.seq ?_
  obtain ⟨x9, hx9, h⟩ := bsome h
  refine AW.region ?_
  refine AOps.cons (op_field lAtom_0 rfl rfl fl36_0 (vt rfl)) rfl ?_
  refine AOps.cons (op_load rfl rfl ty29 (vt rfl) (i := 6) rfl) rfl ?_
  refine AOps.cons (op_loadp rfl rfl ty43 (vt rfl)) rfl ?_
  refine AOps.cons (op_call (xs := [.tmp 8, .tmp 9]) (c14 _ _ _ hx9) (Ent.mk Try.func14 rfl rfl) rfl rfl ⟨vt rfl, vt rfl, trivial⟩) rfl ?_
  refine AOps.consT rfl (op_alloc 7 rfl rfl zr43) ?_
  rintro _ ⟨g10, rfl⟩
  refine AOps.cons (op_store rfl rfl ty43 (vt rfl) (i := 7) rfl (vt rfl)) rfl ?_
  refine AOps.nil ?_
  refine AW.seq ?_
  refine AW.seq ?_
  refine AW.region ?_
  refine AOps.cons (op_field lAtom_1 rfl rfl fl36_1 (vt rfl)) rfl ?_
  refine AOps.cons (op_load rfl rfl ty4 (vt rfl) (i := 6) rfl) rfl ?_
  refine AOps.nil ?_
  refine AW.cond (vt rfl) (fun hc => ?_) (fun hc => ?_)
  · have h := cond_t hc h
    refine AW.seq ?_
    obtain ⟨x11, hx11, h⟩ := bsome h
    obtain ⟨l12, hl12, h⟩ := bsome h
    refine AW.regionAny [⟨[2], [13], [0], []⟩, ⟨[3], [14], [], []⟩, ⟨[4], [15], [], []⟩, ⟨[5], [16], [], []⟩, ⟨[16], [17], [6], []⟩, ⟨[6], [18], [7], []⟩, ⟨[14, 15, 17, 18], [19], [], []⟩, ⟨[13, 19], [20], [2019], [2019]⟩, ⟨[2, 20], [20], [0], [0]⟩] mixed (by kernel_rfl) ?_
    refine SeqA.cons (loc [2] [0] rfl rfl fun S hs hr => op_loadv v5 rfl rfl tyr46 (vt ((hs 2 rfl).trans rfl)) (i := 0) ((hr 0 rfl).trans rfl) rfl) ⟨rfl, rfl, rfl, rfl⟩ ?_
    refine SeqA.cons (loc [3] [] rfl rfl fun S hs hr => op_loadp rfl rfl ty38 (vt ((hs 3 rfl).trans rfl))) ⟨rfl, rfl, rfl, rfl⟩ ?_
    refine SeqA.cons (loc [4] [] rfl rfl fun S hs hr => op_loadp rfl rfl ty41 (vt ((hs 4 rfl).trans rfl))) ⟨rfl, rfl, rfl, rfl⟩ ?_
    refine SeqA.cons (loc [5] [] rfl rfl fun S hs hr => op_field lAtom_2 rfl rfl fl36_2 (vt ((hs 5 rfl).trans rfl))) ⟨rfl, rfl, rfl, rfl⟩ ?_
    refine SeqA.cons (loc [16] [6] rfl rfl fun S hs hr => op_load rfl rfl ty3 (vt ((hs 16 rfl).trans rfl)) (i := 6) ((hr 6 rfl).trans rfl)) ⟨rfl, rfl, rfl, rfl⟩ ?_
    refine SeqA.cons (loc [6] [7] rfl rfl fun S hs hr => op_load rfl rfl ty43 (vt ((hs 6 rfl).trans rfl)) (i := 7) ((hr 7 rfl).trans rfl)) ⟨rfl, rfl, rfl, rfl⟩ ?_
    refine SeqA.cons (loc [14, 15, 17, 18] [] rfl rfl fun S hs hr => op_call (xs := [.tmp 14, .tmp 15, .tmp 17, .tmp 18]) (c36 _ _ _ _ _ hx11) (Ent.mk Try.func36 rfl rfl) rfl rfl ⟨vt ((hs 14 rfl).trans rfl), vt ((hs 15 rfl).trans rfl), vt ((hs 17 rfl).trans rfl), vt ((hs 18 rfl).trans rfl), trivial⟩) ⟨rfl, rfl, rfl, rfl⟩ ?_
    refine SeqA.cons (locs (us := [(20, ownR 59 kOut l12)]) (ur := [(2019, emp)]) [13, 19] [2019] rfl fun S hs hr => op_appendO 2019 hl12 rfl rfl rfl el46 (vt ((hs 13 rfl).trans rfl)) ((hr 2019 rfl).trans rfl) (vt ((hs 19 rfl).trans rfl))) ⟨rfl, rfl, rfl, rfl⟩ ?_
    refine SeqA.cons (locs (us := [(20, top)]) (ur := [(0, BoxF g4 46 kraw (fun v => ((Lens.id kraw)).set v5 v) 59 kOut l12)]) [2, 20] [0] rfl fun S hs hr => op_storeR rfl rfl tyr46 (vt ((hs 2 rfl).trans rfl)) ((hr 0 rfl).trans rfl) ((hs 20 rfl).trans rfl)) ⟨rfl, rfl, rfl, rfl⟩ ?_
    refine AW.unboxF 0 2019 (by decide) rfl rfl fun v13 => ?_
    refine AW.ret ?_
    obtain rfl := Option.some.inj h
    exact RetOK.turn (Turn.packF 0 2019 (fun v => v) (by decide) rfl rfl) (ret0Y (i := 0) Try.results35 rfl rfl)
  · have h := cond_f hc h
    refine AW.skip ?_
    obtain ⟨l14, hl14, h⟩ := bsome h
    refine AW.region ?_
    refine AOps.cons (op_loadv v5 rfl rfl tyr46 (vt rfl) (i := 0) rfl rfl) rfl ?_
    refine AOps.cons (op_field lAtom_2 rfl rfl fl36_2 (vt rfl)) rfl ?_
    refine AOps.cons (op_load rfl rfl ty3 (vt rfl) (i := 6) rfl) rfl ?_
    refine AOps.cons (op_field lAtom_3 rfl rfl fl36_3 (vt rfl)) rfl ?_
    refine AOps.cons (op_load rfl rfl ty3 (vt rfl) (i := 6) rfl) rfl ?_
    refine AOps.cons (op_load rfl rfl ty43 (vt rfl) (i := 7) rfl) rfl ?_
    refine AOps.cons (op_build (ps := [(0, .tmp 23), (1, .tmp 25), (2, .tmp 26)]) (x := (⟨x1.Port, x1.Max, x9⟩ : Out)) rfl rfl rfl (by kernel_rfl) zr59 ⟨_, _, lOut_0, _, by kernel_rfl, (vt rfl), _, _, lOut_1, _, by kernel_rfl, (vt rfl), _, _, lOut_2, _, by kernel_rfl, (vt rfl), rfl⟩) rfl ?_
    refine AOps.cons (op_buildSliceR (ps := [(0, .tmp 27)]) (l := [(⟨x1.Port, x1.Max, x9⟩ : Out)]) rfl rfl sl46 zr59 rfl rfl ⟨_, _, Lens.idx 1 kOut 0 (by decide), _, rfl, (vt rfl), rfl⟩ rfl) rfl ?_
    refine AOps.consT rfl (op_append' 2019 hl14 rfl rfl el46 (vt rfl) rfl (vt rfl)) ?_
    rintro _ ⟨v15, rfl⟩
    refine AOps.cons (op_store rfl rfl tyr46 (vt rfl) (i := 0) rfl (vrow (i := 2019) rfl rfl)) rfl ?_
    refine AOps.nil ?_
    obtain rfl := Option.some.inj h
    exact RetOK.turn (Turn.packF 0 2019 (fun v => v) (by decide) rfl rfl) (ret0Y (i := 0) Try.results35 rfl rfl)
-- weirbox/atom.each[weirbox/api.Atom]
def F34_l1 (sg : Type) (do2 : (sg → Atom → Option sg)) : (List Atom) → Nat → sg → Option sg
  | [], i6, s5 => some s5
  | x8 :: l7, i6, s5 => (do2 s5 x8).bind fun s10 => (F34_l1 sg do2 l7) (i6 + 1) s10
def F34 (l1 : (List Atom)) (sg : Type) (do2 : (sg → Atom → Option sg)) (s3 : sg) : Option sg :=
  F34_l1 sg do2 l1 0 s3
theorem c34 (l1 : (List Atom)) (sg : Type) (do2 : (sg → Atom → Option sg)) (L : sg → Res) (s3 : sg) (r : sg) (h : F34 l1 sg do2 s3 = some r) : Con Try.prog 34 [rd (ksl kAtom) l1, stA Try.prog kAtom do2 L] (L s3) (fun _ : Unit => top) (fun _ => L r) := by
  refine Con.intro Try.func34 rfl Try.ntmps34 rfl fun w H X => ?_
  unfold F34 at h
  refine AW.seq ?_
  refine AW.region ?_
  refine AOps.cons (op_move (A := rd (ksl kAtom) l1) rfl rfl (vt rfl)) rfl ?_
  refine AOps.cons (op_len' rfl rfl sl30 (vt rfl)) rfl ?_
  refine AOps.cons (op_move (A := rd (kint .i64) 0) rfl rfl (vk rfl)) rfl ?_
  refine AOps.nil ?_
  refine AW.block ?_
  refine AW.loopG (d := []) (ν := (List Atom) × Nat × sg) (fun n => Sfx l1 n.2.1 n.1 ∧ F34_l1 sg do2 n.1 n.2.1 n.2.2 = some r) (fun n => n.1.length) (fun n => [(1, stA Try.prog kAtom do2 L), (6, rd (ksl kAtom) l1), (7, rd (kint .i64) (l1.length : Int)), (8, rd (kint .i64) (n.2.1 : Int))]) (fun n => [(0, L n.2.2)]) (l1, 0, s3) ⟨Sfx.start _, h⟩ ⟨rfl, ⟨rfl, rfl, rfl, rfl, trivial⟩, ⟨rfl, trivial⟩⟩ ?_
  rintro ⟨l7, i6, s5⟩ ⟨hsf1, h⟩
  change Sfx l1 i6 l7 at hsf1
  change F34_l1 sg do2 l7 i6 s5 = some r at h
  change AW _ _ _ ⟨slots [(1, stA Try.prog kAtom do2 L), (6, rd (ksl kAtom) l1), (7, rd (kint .i64) (l1.length : Int)), (8, rd (kint .i64) (i6 : Int))], ress [(0, L s5)], _⟩
  cases l7 with
  | nil =>
    unfold F34_l1 at h
    refine AW.seq ?_
    refine AW.region ?_
    refine AOps.cons (op_lss rfl rfl (vt rfl) (vt rfl)) rfl ?_
    refine AOps.nil ?_
    refine AW.seq ?_
    refine AW.cond (vt rfl) (fun hc => absurd (of_decide_eq_true hc) hsf1.nil) (fun hc => ?_)
    refine AW.exit ?_
    obtain rfl := Option.some.inj h
    exact ret0Y (i := 0) Try.results34 rfl rfl
  | cons x8 l7 =>
    unfold F34_l1 at h
    generalize hgo1 : F34_l1 sg do2 l7 = go1 at h
    refine AW.seq ?_
    refine AW.region ?_
    refine AOps.cons (op_lss rfl rfl (vt rfl) (vt rfl)) rfl ?_
    refine AOps.nil ?_
    refine AW.seq ?_
    refine AW.cond (vt rfl) (fun hc => ?_) (fun hc => absurd hsf1.cons (of_decide_eq_false hc))
    have hlti6 := of_decide_eq_true hc
    refine AW.skip ?_
    refine AW.seq ?_
    refine AW.block ?_
    refine AW.seq ?_
    refine AW.region ?_
    refine AOps.cons (op_indexs' rfl rfl sl30 (vt rfl) (vt rfl) hsf1.lget) rfl ?_
    refine AOps.cons (op_loadp rfl rfl ty36 (vt rfl)) rfl ?_
    refine AOps.consT rfl (op_alloc 6 rfl rfl zr36) ?_
    rintro _ ⟨g9, rfl⟩
    refine AOps.cons (op_store rfl rfl ty36 (vt rfl) (i := 6) rfl (vt rfl)) rfl ?_
    refine AOps.nil ?_
    obtain ⟨s10, hs10, h⟩ := bsome h
    refine AW.region ?_
    refine AOps.cons (op_move (A := stA Try.prog kAtom do2 L) rfl rfl (vt rfl)) rfl ?_
    refine AOps.cons (op_load rfl rfl ty36 (vt rfl) (i := 6) rfl) rfl ?_
    refine AOps.cons (op_callst 0 hs10 rfl rfl (vt rfl) (vt rfl) rfl) rfl ?_
    refine AOps.nil ?_
    refine AW.region ?_
    refine AOps.cons (op_incr (t := 7) rfl rfl (vt rfl) (vk rfl) (vt rfl) hlti6) rfl ?_
    refine AOps.cons (op_move (A := rd (kint .i64) ((i6 + 1 : Nat) : Int)) rfl rfl (vt rfl)) rfl ?_
    refine AOps.nil ?_
    subst hgo1
    exact ⟨(l7, i6 + 1, s10), Nat.lt_succ_self _, ⟨hsf1.next, h⟩, ⟨rfl, ⟨rfl, rfl, rfl, rfl, trivial⟩, ⟨rfl, trivial⟩⟩⟩
-- weirbox/atom.Out
def F16 (l1 : (List Group)) (e2 : Env) (a3 : (List Atom)) (h4 : (Vector Wide 24)) : Option (List Out) :=
  (F34 a3 (List Out) (fun s x => F35 x h4 s l1 e2) []).bind fun b9 => some b9
theorem c16 (l1 : (List Group)) (e2 : Env) (a3 : (List Atom)) (h4 : (Vector Wide 24)) (r : (List Out)) (h : F16 l1 e2 a3 h4 = some r) : PCon Try.prog 16 [rd (ksl kGroup) l1, rd kEnv e2, rd (ksl kAtom) a3, rd (karr 24 kWide) h4] (rd (ksl kOut) r) := by
  refine PCon.of (Con.intro0 Try.func16 rfl Try.ntmps16 rfl fun w H => ?_)
  unfold F16 at h
  refine AW.seq ?_
  refine AW.region ?_
  refine AOps.consT rfl (op_box 5 rfl rfl (vt rfl)) ?_
  rintro _ ⟨g5, rfl⟩
  refine AOps.consT rfl (op_box 6 rfl rfl (vt rfl)) ?_
  rintro _ ⟨g6, rfl⟩
  refine AOps.consT rfl (op_box 8 rfl rfl (vt rfl)) ?_
  rintro _ ⟨g7, rfl⟩
  refine AOps.cons (op_assign (A := rd (ksl kOut) []) rfl rfl vnil) rfl ?_
  refine AOps.nil ?_
  refine AW.seq ?_
  refine AW.newnil 2219 59 kOut ?_
  refine AW.region ?_
  refine AOps.consT rfl (op_alloc 10 rfl rfl zrr46) ?_
  rintro _ ⟨g8, rfl⟩
  refine AOps.nil ?_
  refine AW.seq ?_
  refine AW.freezeB 7 8 rfl rfl rfl ?_
  refine AW.freezeB 4 5 rfl rfl rfl ?_
  refine AW.freezeB 5 6 rfl rfl rfl ?_
  obtain ⟨b9, hb9, h⟩ := bsome h
  refine AW.region ?_
  refine AOps.cons (op_move (A := rd (ksl kAtom) a3) rfl rfl (vt rfl)) rfl ?_
  refine AOps.cons (op_st (fs := []) (cs := [.tmp 7, .tmp 9, .tmp 4, .tmp 5]) (FAs := []) (CAs := [rp (karr 24 kWide) h4, ptrL g8 (Lens.id kraw), rp (ksl kGroup) l1, rp kEnv e2]) (k := kAtom) (fun s x => F35 x h4 s l1 e2) (fun (s : (List Out)) => BoxF g8 46 kraw (fun v => v) 59 kOut s) rfl rfl (Ent.mk Try.func35 rfl rfl) trivial ⟨vt rfl, vt rfl, vt rfl, vt rfl, trivial⟩ (fun s x s2 h => c35  _ x h4 s l1 e2 s2 h)) rfl ?_
  refine AOps.packF 10 2219 (fun v => v) (by decide) rfl rfl ?_
  refine AOps.consT rfl (op_callR 10 (xs := [.tmp 10, .tmp 11]) (c34 _ (List Out) _ (fun (s : (List Out)) => BoxF g8 46 kraw (fun v => v) 59 kOut s) _ _ hb9) (Ent.mk Try.func34 rfl rfl) rfl rfl ⟨vt rfl, vt rfl, trivial⟩ rfl) ?_
  rintro _ ⟨_u, rfl⟩
  refine AOps.unboxF 10 2219 (by decide) rfl rfl fun v10 => ?_
  refine AOps.nil ?_
  refine AW.seq ?_
  refine AW.region ?_
  refine AOps.cons (op_loadv v10 rfl rfl tyr46 (vt rfl) (i := 10) rfl rfl) rfl ?_
  refine AOps.cons (op_assign (A := raw v10) rfl rfl (vt rfl)) rfl ?_
  refine AOps.nil ?_
  refine AW.freezes [8, 13] 2219 rfl ⟨rfl, rfl, trivial⟩ rfl ?_
  refine AW.ret ?_
  obtain rfl := Option.some.inj h
  exact ret1 Try.results16 rfl (out_tmp rfl)
-- slices.EqualFunc[[]weirbox/api.Atom,[]weirbox/api.Atom,weirbox/api.Atom,weirbox/api.Atom]
def F24_l1 (s22 : (List Atom)) (eq3 : (Atom → Atom → Option Bool)) : (List Atom) → Nat → Option Bool
  | [], i4 => some true
  | x6 :: l5, i4 => (lget s22 (i4 : Int)).bind fun e8 => (eq3 x6 e8).bind fun x10 => (bif (!x10) then some false else (F24_l1 s22 eq3 l5) (i4 + 1))
def F24 (s11 : (List Atom)) (s22 : (List Atom)) (eq3 : (Atom → Atom → Option Bool)) : Option Bool :=
  (bif (decide ((s11.length : Int) ≠ (s22.length : Int))) then some false else F24_l1 s22 eq3 s11 0)
theorem c24 (s11 : (List Atom)) (s22 : (List Atom)) (eq3 : (Atom → Atom → Option Bool)) (r : Bool) (h : F24 s11 s22 eq3 = some r) : PCon Try.prog 24 [rd (ksl kAtom) s11, rd (ksl kAtom) s22, fn2 Try.prog kAtom kAtom kbool eq3] (rd kbool r) := by
  refine PCon.of (Con.intro0 Try.func24 rfl Try.ntmps24 rfl fun w H => ?_)
  unfold F24 at h
  refine AW.seq ?_
  refine AW.region ?_
  refine AOps.cons (op_assign (A := rd kbool false) rfl rfl vb) rfl ?_
  refine AOps.nil ?_
  refine AW.seq ?_
  refine AW.seq ?_
  refine AW.region ?_
  refine AOps.cons (op_move (A := rd (ksl kAtom) s11) rfl rfl (vt rfl)) rfl ?_
  refine AOps.cons (op_len' rfl rfl sl30 (vt rfl)) rfl ?_
  refine AOps.cons (op_move (A := rd (ksl kAtom) s22) rfl rfl (vt rfl)) rfl ?_
  refine AOps.cons (op_len' rfl rfl sl30 (vt rfl)) rfl ?_
  refine AOps.cons (op_neq rfl rfl (vt rfl) (vt rfl)) rfl ?_
  refine AOps.nil ?_
  refine AW.cond (vt rfl) (fun hc => ?_) (fun hc => ?_)
  · have h := cond_t hc h
    refine AW.seq ?_
    refine AW.region ?_
    refine AOps.cons (op_assign (A := rd kbool false) rfl rfl vb) rfl ?_
    refine AOps.nil ?_
    refine AW.ret ?_
    obtain rfl := Option.some.inj h
    exact ret1 Try.results24 rfl (out_tmp rfl)
  · have h := cond_f hc h
    refine AW.skip ?_
    refine AW.seq ?_
    refine AW.seq ?_
    refine AW.region ?_
    refine AOps.cons (op_move (A := rd (ksl kAtom) s11) rfl rfl (vt rfl)) rfl ?_
    refine AOps.cons (op_len' rfl rfl sl30 (vt rfl)) rfl ?_
    refine AOps.cons (op_move (A := rd (kint .i64) 0) rfl rfl (vk rfl)) rfl ?_
    refine AOps.nil ?_
    refine AW.block ?_
    refine AW.loopG (d := []) (ν := (List Atom) × Nat) (fun n => Sfx s11 n.2 n.1 ∧ F24_l1 s22 eq3 n.1 n.2 = some r) (fun n => n.1.length) (fun n => [(1, rd (ksl kAtom) s22), (2, fn2 Try.prog kAtom kAtom kbool eq3), (15, rd (ksl kAtom) s11), (16, rd (kint .i64) (s11.length : Int)), (17, rd (kint .i64) (n.2 : Int))]) (fun n => []) (s11, 0) ⟨Sfx.start _, h⟩ ⟨rfl, ⟨rfl, rfl, rfl, rfl, rfl, trivial⟩, trivial⟩ ?_
    rintro ⟨l5, i4⟩ ⟨hsf1, h⟩
    change Sfx s11 i4 l5 at hsf1
    change F24_l1 s22 eq3 l5 i4 = some r at h
    change AW _ _ _ ⟨slots [(1, rd (ksl kAtom) s22), (2, fn2 Try.prog kAtom kAtom kbool eq3), (15, rd (ksl kAtom) s11), (16, rd (kint .i64) (s11.length : Int)), (17, rd (kint .i64) (i4 : Int))], ress [], _⟩
    cases l5 with
    | nil =>
      unfold F24_l1 at h
      refine AW.seq ?_
      refine AW.region ?_
      refine AOps.cons (op_lss rfl rfl (vt rfl) (vt rfl)) rfl ?_
      refine AOps.nil ?_
      refine AW.seq ?_
      refine AW.cond (vt rfl) (fun hc => absurd (of_decide_eq_true hc) hsf1.nil) (fun hc => ?_)
      refine AW.exit ?_
      refine AW.seq ?_
      refine AW.region ?_
      refine AOps.cons (op_assign (A := rd kbool true) rfl rfl vb) rfl ?_
      refine AOps.nil ?_
      refine AW.ret ?_
      obtain rfl := Option.some.inj h
      exact ret1 Try.results24 rfl (out_tmp rfl)
    | cons x6 l5 =>
      unfold F24_l1 at h
      generalize hgo1 : F24_l1 s22 eq3 l5 = go1 at h
      refine AW.seq ?_
      refine AW.region ?_
      refine AOps.cons (op_lss rfl rfl (vt rfl) (vt rfl)) rfl ?_
      refine AOps.nil ?_
      refine AW.seq ?_
      refine AW.cond (vt rfl) (fun hc => ?_) (fun hc => absurd hsf1.cons (of_decide_eq_false hc))
      have hlti4 := of_decide_eq_true hc
      refine AW.skip ?_
      refine AW.seq ?_
      refine AW.block ?_
      refine AW.seq ?_
      refine AW.region ?_
      refine AOps.cons (op_move (A := rd (kint .i64) (i4 : Int)) rfl rfl (vt rfl)) rfl ?_
      refine AOps.cons (op_indexs' rfl rfl sl30 (vt rfl) (vt rfl) hsf1.lget) rfl ?_
      refine AOps.cons (op_loadp rfl rfl ty36 (vt rfl)) rfl ?_
      refine AOps.consT rfl (op_alloc 9 rfl rfl zr36) ?_
      rintro _ ⟨g7, rfl⟩
      refine AOps.cons (op_assign (A := rd (kint .i64) (i4 : Int)) rfl rfl (vt rfl)) rfl ?_
      refine AOps.cons (op_store rfl rfl ty36 (vt rfl) (i := 9) rfl (vt rfl)) rfl ?_
      refine AOps.nil ?_
      refine AW.seq ?_
      obtain ⟨e8, he8, h⟩ := bsome h
      refine AW.region ?_
      refine AOps.cons (op_move (A := rd (ksl kAtom) s22) rfl rfl (vt rfl)) rfl ?_
      refine AOps.cons (op_move (A := rd (kint .i64) (i4 : Int)) rfl rfl (vt rfl)) rfl ?_
      refine AOps.cons (op_indexs' rfl rfl sl30 (vt rfl) (vt rfl) he8) rfl ?_
      refine AOps.cons (op_loadp rfl rfl ty36 (vt rfl)) rfl ?_
      refine AOps.consT rfl (op_alloc 10 rfl rfl zr36) ?_
      rintro _ ⟨g9, rfl⟩
      refine AOps.cons (op_store rfl rfl ty36 (vt rfl) (i := 10) rfl (vt rfl)) rfl ?_
      refine AOps.nil ?_
      refine AW.seq ?_
      obtain ⟨x10, hx10, h⟩ := bsome h
      refine AW.region ?_
      refine AOps.cons (op_move (A := fn2 Try.prog kAtom kAtom kbool eq3) rfl rfl (vt rfl)) rfl ?_
      refine AOps.cons (op_load rfl rfl ty36 (vt rfl) (i := 9) rfl) rfl ?_
      refine AOps.cons (op_load rfl rfl ty36 (vt rfl) (i := 10) rfl) rfl ?_
      refine AOps.cons (op_call2 hx10 rfl rfl (vt rfl) (vt rfl) (vt rfl)) rfl ?_
      refine AOps.cons (op_not rfl rfl (vt rfl)) rfl ?_
      refine AOps.nil ?_
      refine AW.cond (vt rfl) (fun hc => ?_) (fun hc => ?_)
      · have h := cond_t hc h
        refine AW.seq ?_
        refine AW.region ?_
        refine AOps.cons (op_assign (A := rd kbool false) rfl rfl vb) rfl ?_
        refine AOps.nil ?_
        refine AW.ret ?_
        obtain rfl := Option.some.inj h
        exact ret1 Try.results24 rfl (out_tmp rfl)
      · have h := cond_f hc h
        refine AW.skip ?_
        refine AW.region ?_
        refine AOps.cons (op_incr (t := 16) rfl rfl (vt rfl) (vk rfl) (vt rfl) hlti4) rfl ?_
        refine AOps.cons (op_move (A := rd (kint .i64) ((i4 + 1 : Nat) : Int)) rfl rfl (vt rfl)) rfl ?_
        refine AOps.nil ?_
        subst hgo1
        exact ⟨(l5, i4 + 1), Nat.lt_succ_self _, ⟨hsf1.next, h⟩, ⟨rfl, ⟨rfl, rfl, rfl, rfl, rfl, trivial⟩, trivial⟩⟩
-- weirbox/atom.same
def F25 (a1 : Atom) (b2 : Atom) : Option Bool :=
  (F18 a1.Rewrite).bind fun x5 => (F18 b2.Rewrite).bind fun x6 => some (decide ({ a1 with Rewrite := x5 } = { b2 with Rewrite := x6 }))
theorem c25 (a1 : Atom) (b2 : Atom) (r : Bool) (h : F25 a1 b2 = some r) : PCon Try.prog 25 [rd kAtom a1, rd kAtom b2] (rd kbool r) := by
  refine PCon.of (Con.intro0 Try.func25 rfl Try.ntmps25 rfl fun w H => ?_)
  unfold F25 at h
  refine AW.seq ?_
  refine AW.region ?_
  refine AOps.consT rfl (op_box 3 rfl rfl (vt rfl)) ?_
  rintro _ ⟨g3, rfl⟩
  refine AOps.consT rfl (op_box 4 rfl rfl (vt rfl)) ?_
  rintro _ ⟨g4, rfl⟩
  refine AOps.cons (op_assign (A := rd kbool false) rfl rfl vb) rfl ?_
  refine AOps.nil ?_
  refine AW.seq ?_
  obtain ⟨x5, hx5, h⟩ := bsome h
  obtain ⟨x6, hx6, h⟩ := bsome h
  refine AW.regionAny [⟨[2], [5], [], []⟩, ⟨[5], [6], [3], []⟩, ⟨[6], [7], [], []⟩, ⟨[3], [8], [], []⟩, ⟨[8], [9], [4], []⟩, ⟨[9], [10], [], []⟩, ⟨[2], [11], [], []⟩, ⟨[11, 7], [], [3], [3]⟩, ⟨[3], [12], [], []⟩, ⟨[12, 10], [], [4], [4]⟩] mixed (by kernel_rfl) ?_
  refine SeqA.cons (loc [2] [] rfl rfl fun S hs hr => op_field lAtom_0 rfl rfl fl36_0 (vt ((hs 2 rfl).trans rfl))) ⟨rfl, rfl, rfl, rfl⟩ ?_
  refine SeqA.cons (loc [5] [3] rfl rfl fun S hs hr => op_load rfl rfl ty29 (vt ((hs 5 rfl).trans rfl)) (i := 3) ((hr 3 rfl).trans rfl)) ⟨rfl, rfl, rfl, rfl⟩ ?_
  refine SeqA.cons (loc [6] [] rfl rfl fun S hs hr => op_call (xs := [.tmp 6]) (c18 _ _ hx5) (Ent.mk Try.func18 rfl rfl) rfl rfl ⟨vt ((hs 6 rfl).trans rfl), trivial⟩) ⟨rfl, rfl, rfl, rfl⟩ ?_
  refine SeqA.cons (loc [3] [] rfl rfl fun S hs hr => op_field lAtom_0 rfl rfl fl36_0 (vt ((hs 3 rfl).trans rfl))) ⟨rfl, rfl, rfl, rfl⟩ ?_
  refine SeqA.cons (loc [8] [4] rfl rfl fun S hs hr => op_load rfl rfl ty29 (vt ((hs 8 rfl).trans rfl)) (i := 4) ((hr 4 rfl).trans rfl)) ⟨rfl, rfl, rfl, rfl⟩ ?_
  refine SeqA.cons (loc [9] [] rfl rfl fun S hs hr => op_call (xs := [.tmp 9]) (c18 _ _ hx6) (Ent.mk Try.func18 rfl rfl) rfl rfl ⟨vt ((hs 9 rfl).trans rfl), trivial⟩) ⟨rfl, rfl, rfl, rfl⟩ ?_
  refine SeqA.cons (loc [2] [] rfl rfl fun S hs hr => op_field lAtom_0 rfl rfl fl36_0 (vt ((hs 2 rfl).trans rfl))) ⟨rfl, rfl, rfl, rfl⟩ ?_
  refine SeqA.cons (locr [11, 7] [3] rfl fun S hs hr => op_store rfl rfl ty29 (vt ((hs 11 rfl).trans rfl)) (i := 3) ((hr 3 rfl).trans rfl) (vt ((hs 7 rfl).trans rfl))) ⟨rfl, rfl, rfl, rfl⟩ ?_
  refine SeqA.cons (loc [3] [] rfl rfl fun S hs hr => op_field lAtom_0 rfl rfl fl36_0 (vt ((hs 3 rfl).trans rfl))) ⟨rfl, rfl, rfl, rfl⟩ ?_
  refine SeqA.cons (locr [12, 10] [4] rfl fun S hs hr => op_store rfl rfl ty29 (vt ((hs 12 rfl).trans rfl)) (i := 4) ((hr 4 rfl).trans rfl) (vt ((hs 10 rfl).trans rfl))) ⟨rfl, rfl, rfl, rfl⟩ ?_
  refine AW.seq ?_
  refine AW.region ?_
  refine AOps.cons (op_load rfl rfl ty36 (vt rfl) (i := 3) rfl) rfl ?_
  refine AOps.cons (op_load rfl rfl ty36 (vt rfl) (i := 4) rfl) rfl ?_
  refine AOps.cons (op_eqlk rfl rfl eqk36 (by decide) rfl eg36 (vt rfl) (vt rfl)) rfl ?_
  refine AOps.cons (op_assign (A := rd kbool (decide ({ a1 with Rewrite := x5 } = { b2 with Rewrite := x6 }))) rfl rfl (vt rfl)) rfl ?_
  refine AOps.nil ?_
  refine AW.ret ?_
  obtain rfl := Option.some.inj h
  exact ret1 Try.results25 rfl (out_tmp rfl)
-- weirbox/atom.Same
def F9 (a1 : (List Atom)) (b2 : (List Atom)) : Option Bool :=
  (F24 a1 b2 F25).bind fun x3 => some x3
theorem c9 (a1 : (List Atom)) (b2 : (List Atom)) (r : Bool) (h : F9 a1 b2 = some r) : PCon Try.prog 9 [rd (ksl kAtom) a1, rd (ksl kAtom) b2] (rd kbool r) := by
  refine PCon.of (Con.intro0 Try.func9 rfl Try.ntmps9 rfl fun w H => ?_)
  unfold F9 at h
  refine AW.seq ?_
  refine AW.region ?_
  refine AOps.cons (op_assign (A := rd kbool false) rfl rfl vb) rfl ?_
  refine AOps.nil ?_
  refine AW.seq ?_
  obtain ⟨x3, hx3, h⟩ := bsome h
  refine AW.region ?_
  refine AOps.cons (op_move (A := rd (ksl kAtom) a1) rfl rfl (vt rfl)) rfl ?_
  refine AOps.cons (op_move (A := rd (ksl kAtom) b2) rfl rfl (vt rfl)) rfl ?_
  refine AOps.cons (op_call (xs := [.tmp 5, .tmp 6, .func 25]) (c24 _ _ _ _ hx3) (Ent.mk Try.func24 rfl rfl) rfl rfl ⟨vt rfl, vt rfl, vf2 (Ent.mk Try.func25 rfl rfl) c25, trivial⟩) rfl ?_
  refine AOps.cons (op_assign (A := rd kbool x3) rfl rfl (vt rfl)) rfl ?_
  refine AOps.nil ?_
  refine AW.ret ?_
  obtain rfl := Option.some.inj h
  exact ret1 Try.results9 rfl (out_tmp rfl)
-- weirbox/weirboxlaw32.awake
def F5 : Option Bool :=
  (F17).bind fun x1 => (F6 [(⟨17, 0, 0, 0, 0, zOxm⟩ : Action), (⟨0, 4, 3, 0, 0, zOxm⟩ : Action), (⟨22, 0, 0, 7, 0, zOxm⟩ : Action)] x1).bind fun x2 => (F16 [] (⟨0, []⟩ : Env) x2.1 (Vector.replicate 24 zWide)).bind fun x4 => (opt (decide ((x2.1.length : Int) = 2)) (lget x2.1 1)).bind fun e5 => (opt ((decide ((x2.1.length : Int) = 2)) && e5.Group) (lget x2.1 1)).bind fun e6 => (opt (((decide ((x2.1.length : Int) = 2)) && e5.Group) && (decide (e6.Port = 7))) (lget x2.1 0)).bind fun e7 => (opt ((((((decide ((x2.1.length : Int) = 2)) && e5.Group) && (decide (e6.Port = 7))) && (decide (e7.Max = 0))) && (decide ((((Vector.get x2.2 (⟨5, by decide⟩ : _root_.Fin 24)).Mask).Lo) = (4096 : BitVec 64)))) && (decide ((x4.length : Int) = 1))) (lget x4 0)).bind fun e8 => (opt (((((((decide ((x2.1.length : Int) = 2)) && e5.Group) && (decide (e6.Port = 7))) && (decide (e7.Max = 0))) && (decide ((((Vector.get x2.2 (⟨5, by decide⟩ : _root_.Fin 24)).Mask).Lo) = (4096 : BitVec 64)))) && (decide ((x4.length : Int) = 1))) && (decide (((Vector.get e8.Header (⟨5, by decide⟩ : _root_.Fin 24)).Lo) = (4096 : BitVec 64)))) (F9 x2.1 x2.1)).bind fun x9 => (opt ((((((((decide ((x2.1.length : Int) = 2)) && e5.Group) && (decide (e6.Port = 7))) && (decide (e7.Max = 0))) && (decide ((((Vector.get x2.2 (⟨5, by decide⟩ : _root_.Fin 24)).Mask).Lo) = (4096 : BitVec 64)))) && (decide ((x4.length : Int) = 1))) && (decide (((Vector.get e8.Header (⟨5, by decide⟩ : _root_.Fin 24)).Lo) = (4096 : BitVec 64)))) && x9) (odrop x2.1 1)).bind fun s10 => (opt ((((((((decide ((x2.1.length : Int) = 2)) && e5.Group) && (decide (e6.Port = 7))) && (decide (e7.Max = 0))) && (decide ((((Vector.get x2.2 (⟨5, by decide⟩ : _root_.Fin 24)).Mask).Lo) = (4096 : BitVec 64)))) && (decide ((x4.length : Int) = 1))) && (decide (((Vector.get e8.Header (⟨5, by decide⟩ : _root_.Fin 24)).Lo) = (4096 : BitVec 64)))) && x9) (F9 x2.1 s10)).bind fun x11 => some (((((((((decide ((x2.1.length : Int) = 2)) && e5.Group) && (decide (e6.Port = 7))) && (decide (e7.Max = 0))) && (decide ((((Vector.get x2.2 (⟨5, by decide⟩ : _root_.Fin 24)).Mask).Lo) = (4096 : BitVec 64)))) && (decide ((x4.length : Int) = 1))) && (decide (((Vector.get e8.Header (⟨5, by decide⟩ : _root_.Fin 24)).Lo) = (4096 : BitVec 64)))) && x9) && (!x11))
theorem c5 (r : Bool) (h : F5 = some r) : PCon Try.prog 5 [] (rd kbool r) := by
  refine PCon.of (Con.intro0 Try.func5 rfl Try.ntmps5 rfl fun w H => ?_)
  unfold F5 at h
  refine AW.seq ?_
  refine AW.region ?_
  refine AOps.cons (op_assign (A := rd kbool false) rfl rfl vb) rfl ?_
  refine AOps.nil ?_
  refine AW.seq ?_
  obtain ⟨x1, hx1, h⟩ := bsome h
  obtain ⟨x2, hx2, h⟩ := bsome h
  refine AW.region ?_
  refine AOps.cons (op_build (ps := [(0, .const (Value.int IntKind.i64 17))]) (x := (⟨17, 0, 0, 0, 0, zOxm⟩ : Action)) rfl rfl rfl (by kernel_rfl) zr56 ⟨_, _, lAction_0, _, by kernel_rfl, (vk rfl), rfl⟩) rfl ?_
  refine AOps.cons (op_build (ps := [(0, .const (Value.int IntKind.i64 0)), (1, .const (Value.int IntKind.i64 4)), (2, .const (Value.int IntKind.i64 3))]) (x := (⟨0, 4, 3, 0, 0, zOxm⟩ : Action)) rfl rfl rfl (by kernel_rfl) zr56 ⟨_, _, lAction_0, _, by kernel_rfl, (vk rfl), _, _, lAction_1, _, by kernel_rfl, (vk rfl), _, _, lAction_2, _, by kernel_rfl, (vk rfl), rfl⟩) rfl ?_
  refine AOps.cons (op_build (ps := [(0, .const (Value.int IntKind.i64 22)), (3, .const (Value.int IntKind.i64 7))]) (x := (⟨22, 0, 0, 7, 0, zOxm⟩ : Action)) rfl rfl rfl (by kernel_rfl) zr56 ⟨_, _, lAction_0, _, by kernel_rfl, (vk rfl), _, _, lAction_3, _, by kernel_rfl, (vk rfl), rfl⟩) rfl ?_
  refine AOps.cons (op_buildSliceR (ps := [(0, .tmp 5), (1, .tmp 6), (2, .tmp 7)]) (l := [(⟨17, 0, 0, 0, 0, zOxm⟩ : Action), (⟨0, 4, 3, 0, 0, zOxm⟩ : Action), (⟨22, 0, 0, 7, 0, zOxm⟩ : Action)]) rfl rfl sl22 zr56 rfl rfl ⟨_, _, Lens.idx 3 kAction 0 (by decide), _, rfl, (vt rfl), _, _, Lens.idx 3 kAction 1 (by decide), _, rfl, (vt rfl), _, _, Lens.idx 3 kAction 2 (by decide), _, rfl, (vt rfl), rfl⟩ rfl) rfl ?_
  refine AOps.cons (op_call (xs := []) (c17 _ hx1) (Ent.mk Try.func17 rfl rfl) rfl rfl trivial) rfl ?_
  refine AOps.cons (op_call (xs := [.tmp 8, .tmp 9]) (c6 _ _ _ hx2) (Ent.mk Try.func6 rfl rfl) rfl rfl ⟨vt rfl, vt rfl, trivial⟩) rfl ?_
  refine AOps.cons (op_move (A := tup2 (rd (ksl kAtom) x2.1) (rd (karr 24 kTern) x2.2)) rfl rfl (vt rfl)) rfl ?_
  refine AOps.cons (op_fst rfl rfl (vt rfl)) rfl ?_
  refine AOps.cons (op_snd rfl rfl (vt rfl)) rfl ?_
  refine AOps.consT rfl (op_alloc 3 rfl rfl zr29) ?_
  rintro _ ⟨g3, rfl⟩
  refine AOps.cons (op_assign (A := rd (ksl kAtom) x2.1) rfl rfl (vt rfl)) rfl ?_
  refine AOps.cons (op_store rfl rfl ty29 (vt rfl) (i := 3) rfl (vt rfl)) rfl ?_
  refine AOps.nil ?_
  refine AW.seq ?_
  obtain ⟨x4, hx4, h⟩ := bsome h
  refine AW.region ?_
  refine AOps.cons (op_build (ps := []) (x := (⟨0, []⟩ : Env)) rfl rfl rfl (by kernel_rfl) zr41 rfl) rfl ?_
  refine AOps.cons (op_move (A := rd (ksl kAtom) x2.1) rfl rfl (vt rfl)) rfl ?_
  refine AOps.cons (op_build (ps := []) (x := (Vector.replicate 24 zWide)) rfl rfl rfl (by kernel_rfl) zr43 rfl) rfl ?_
  refine AOps.cons (op_call (xs := [.const (Value.slice none 0 0), .tmp 13, .tmp 14, .tmp 15]) (c16 _ _ _ _ _ hx4) (Ent.mk Try.func16 rfl rfl) rfl rfl ⟨vnil, vt rfl, vt rfl, vt rfl, trivial⟩) rfl ?_
  refine AOps.cons (op_assign (A := rd (ksl kOut) x4) rfl rfl (vt rfl)) rfl ?_
  refine AOps.nil ?_
  refine AW.seq ?_
  obtain ⟨e5, he5, h⟩ := bsome h
  obtain ⟨e6, he6, h⟩ := bsome h
  obtain ⟨e7, he7, h⟩ := bsome h
  obtain ⟨e8, he8, h⟩ := bsome h
  obtain ⟨x9, hx9, h⟩ := bsome h
  obtain ⟨s10, hs10, h⟩ := bsome h
  obtain ⟨x11, hx11, h⟩ := bsome h
  refine AW.region ?_
  refine AOps.cons (op_move (A := rd (ksl kAtom) x2.1) rfl rfl (vt rfl)) rfl ?_
  refine AOps.cons (op_len' rfl rfl sl30 (vt rfl)) rfl ?_
  refine AOps.cons (op_eql rfl rfl (vt rfl) (vk rfl)) rfl ?_
  refine AOps.cons (op_move (A := rd kbool (decide ((x2.1.length : Int) = 2))) rfl rfl (vt rfl)) rfl ?_
  refine AOps.consG (OpG.guard rfl rfl rfl rfl rfl fun hq => op_move (A := rd (ksl kAtom) x2.1) rfl rfl (vt rfl)) ?_
  refine AOps.consG (OpG.guard rfl rfl rfl rfl rfl fun hq => op_indexs' rfl rfl sl30 (vgt rfl hq) (vk rfl) (opt_t he5 hq)) ?_
  refine AOps.consG (OpG.guard rfl rfl rfl rfl rfl fun hq => op_fieldp lAtom_1 rfl rfl fl36_1 (vgt rfl hq)) ?_
  refine AOps.consG (OpG.guard rfl rfl rfl rfl rfl fun hq => op_loadp rfl rfl ty4 (vgt rfl hq)) ?_
  refine AOps.cons (op_all rfl rfl (vt rfl) (vt rfl)) rfl ?_
  refine AOps.cons (op_move (A := rd kbool ((decide ((x2.1.length : Int) = 2)) && e5.Group)) rfl rfl (vt rfl)) rfl ?_
  refine AOps.consG (OpG.guard rfl rfl rfl rfl rfl fun hq => op_move (A := rd (ksl kAtom) x2.1) rfl rfl (vt rfl)) ?_
  refine AOps.consG (OpG.guard rfl rfl rfl rfl rfl fun hq => op_indexs' rfl rfl sl30 (vgt rfl hq) (vk rfl) (opt_t he6 hq)) ?_
  refine AOps.consG (OpG.guard rfl rfl rfl rfl rfl fun hq => op_fieldp lAtom_2 rfl rfl fl36_2 (vgt rfl hq)) ?_
  refine AOps.consG (OpG.guard rfl rfl rfl rfl rfl fun hq => op_loadp rfl rfl ty3 (vgt rfl hq)) ?_
  refine AOps.consG (OpG.guard rfl rfl rfl rfl rfl fun hq => op_eql rfl rfl (vgt rfl hq) (vk rfl)) ?_
  refine AOps.cons (op_all rfl rfl (vt rfl) (vt rfl)) rfl ?_
  refine AOps.cons (op_move (A := rd kbool (((decide ((x2.1.length : Int) = 2)) && e5.Group) && (decide (e6.Port = 7)))) rfl rfl (vt rfl)) rfl ?_
  refine AOps.consG (OpG.guard rfl rfl rfl rfl rfl fun hq => op_move (A := rd (ksl kAtom) x2.1) rfl rfl (vt rfl)) ?_
  refine AOps.consG (OpG.guard rfl rfl rfl rfl rfl fun hq => op_indexs' rfl rfl sl30 (vgt rfl hq) (vk rfl) (opt_t he7 hq)) ?_
  refine AOps.consG (OpG.guard rfl rfl rfl rfl rfl fun hq => op_fieldp lAtom_3 rfl rfl fl36_3 (vgt rfl hq)) ?_
  refine AOps.consG (OpG.guard rfl rfl rfl rfl rfl fun hq => op_loadp rfl rfl ty3 (vgt rfl hq)) ?_
  refine AOps.consG (OpG.guard rfl rfl rfl rfl rfl fun hq => op_eql rfl rfl (vgt rfl hq) (vk rfl)) ?_
  refine AOps.cons (op_all rfl rfl (vt rfl) (vt rfl)) rfl ?_
  refine AOps.cons (op_move (A := rd kbool ((((decide ((x2.1.length : Int) = 2)) && e5.Group) && (decide (e6.Port = 7))) && (decide (e7.Max = 0)))) rfl rfl (vt rfl)) rfl ?_
  refine AOps.consG (OpG.guard rfl rfl rfl rfl rfl fun hq => op_index' rfl rfl ar29 (vt rfl) (vk rfl) rfl) ?_
  refine AOps.consG (OpG.guard rfl rfl rfl rfl rfl fun hq => op_field lTern_1 rfl rfl fl27_1 (vgt rfl hq)) ?_
  refine AOps.consG (OpG.guard rfl rfl rfl rfl rfl fun hq => op_field lWide_1 rfl rfl fl25_1 (vgt rfl hq)) ?_
  refine AOps.consG (OpG.guard rfl rfl rfl rfl rfl fun hq => op_load rfl rfl ty23 (vgt rfl hq) (i := 3) rfl) ?_
  refine AOps.consG (OpG.guard rfl rfl rfl rfl rfl fun hq => op_eqlu rfl rfl (vgt rfl hq) (vku (4096 : BitVec 64) rfl)) ?_
  refine AOps.cons (op_all rfl rfl (vt rfl) (vt rfl)) rfl ?_
  refine AOps.cons (op_move (A := rd kbool (((((decide ((x2.1.length : Int) = 2)) && e5.Group) && (decide (e6.Port = 7))) && (decide (e7.Max = 0))) && (decide ((((Vector.get x2.2 (⟨5, by decide⟩ : _root_.Fin 24)).Mask).Lo) = (4096 : BitVec 64))))) rfl rfl (vt rfl)) rfl ?_
  refine AOps.consG (OpG.guard rfl rfl rfl rfl rfl fun hq => op_move (A := rd (ksl kOut) x4) rfl rfl (vt rfl)) ?_
  refine AOps.consG (OpG.guard rfl rfl rfl rfl rfl fun hq => op_len' rfl rfl sl46 (vgt rfl hq)) ?_
  refine AOps.consG (OpG.guard rfl rfl rfl rfl rfl fun hq => op_eql rfl rfl (vgt rfl hq) (vk rfl)) ?_
  refine AOps.cons (op_all rfl rfl (vt rfl) (vt rfl)) rfl ?_
  refine AOps.cons (op_move (A := rd kbool ((((((decide ((x2.1.length : Int) = 2)) && e5.Group) && (decide (e6.Port = 7))) && (decide (e7.Max = 0))) && (decide ((((Vector.get x2.2 (⟨5, by decide⟩ : _root_.Fin 24)).Mask).Lo) = (4096 : BitVec 64)))) && (decide ((x4.length : Int) = 1)))) rfl rfl (vt rfl)) rfl ?_
  refine AOps.consG (OpG.guard rfl rfl rfl rfl rfl fun hq => op_move (A := rd (ksl kOut) x4) rfl rfl (vt rfl)) ?_
  refine AOps.consG (OpG.guard rfl rfl rfl rfl rfl fun hq => op_indexs' rfl rfl sl46 (vgt rfl hq) (vk rfl) (opt_t he8 hq)) ?_
  refine AOps.consG (OpG.guard rfl rfl rfl rfl rfl fun hq => op_fieldp lOut_2 rfl rfl fl59_2 (vgt rfl hq)) ?_
  refine AOps.consG (OpG.guard rfl rfl rfl rfl rfl fun hq => op_indexp' rfl rfl ar43 (vgt rfl hq) (vk rfl) rfl) ?_
  refine AOps.consG (OpG.guard rfl rfl rfl rfl rfl fun hq => op_fieldp lWide_1 rfl rfl fl25_1 (vgt rfl hq)) ?_
  refine AOps.consG (OpG.guard rfl rfl rfl rfl rfl fun hq => op_loadp rfl rfl ty23 (vgt rfl hq)) ?_
  refine AOps.consG (OpG.guard rfl rfl rfl rfl rfl fun hq => op_eqlu rfl rfl (vgt rfl hq) (vku (4096 : BitVec 64) rfl)) ?_
  refine AOps.cons (op_all rfl rfl (vt rfl) (vt rfl)) rfl ?_
  refine AOps.cons (op_move (A := rd kbool (((((((decide ((x2.1.length : Int) = 2)) && e5.Group) && (decide (e6.Port = 7))) && (decide (e7.Max = 0))) && (decide ((((Vector.get x2.2 (⟨5, by decide⟩ : _root_.Fin 24)).Mask).Lo) = (4096 : BitVec 64)))) && (decide ((x4.length : Int) = 1))) && (decide (((Vector.get e8.Header (⟨5, by decide⟩ : _root_.Fin 24)).Lo) = (4096 : BitVec 64))))) rfl rfl (vt rfl)) rfl ?_
  refine AOps.consG (OpG.guard rfl rfl rfl rfl rfl fun hq => op_move (A := rd (ksl kAtom) x2.1) rfl rfl (vt rfl)) ?_
  refine AOps.consG (OpG.guard rfl rfl rfl rfl rfl fun hq => op_move (A := rd (ksl kAtom) x2.1) rfl rfl (vt rfl)) ?_
  refine AOps.consG (OpG.guard rfl rfl rfl rfl rfl fun hq => op_call (xs := [.tmp 62, .tmp 63]) (c9 _ _ _ (opt_t hx9 hq)) (Ent.mk Try.func9 rfl rfl) rfl rfl ⟨vgt rfl hq, vgt rfl hq, trivial⟩) ?_
  refine AOps.cons (op_all rfl rfl (vt rfl) (vt rfl)) rfl ?_
  refine AOps.cons (op_move (A := rd kbool ((((((((decide ((x2.1.length : Int) = 2)) && e5.Group) && (decide (e6.Port = 7))) && (decide (e7.Max = 0))) && (decide ((((Vector.get x2.2 (⟨5, by decide⟩ : _root_.Fin 24)).Mask).Lo) = (4096 : BitVec 64)))) && (decide ((x4.length : Int) = 1))) && (decide (((Vector.get e8.Header (⟨5, by decide⟩ : _root_.Fin 24)).Lo) = (4096 : BitVec 64)))) && x9)) rfl rfl (vt rfl)) rfl ?_
  refine AOps.consG (OpG.guard rfl rfl rfl rfl rfl fun hq => op_move (A := rd (ksl kAtom) x2.1) rfl rfl (vt rfl)) ?_
  refine AOps.consG (OpG.guard rfl rfl rfl rfl rfl fun hq => op_move (A := rd (ksl kAtom) x2.1) rfl rfl (vt rfl)) ?_
  refine AOps.consG (OpG.guard rfl rfl rfl rfl rfl fun hq => op_slice_l' (opt_t hs10 hq) rfl rfl sl30 (vgt rfl hq) (vk rfl)) ?_
  refine AOps.consG (OpG.guard rfl rfl rfl rfl rfl fun hq => op_call (xs := [.tmp 67, .tmp 69]) (c9 _ _ _ (opt_t hx11 hq)) (Ent.mk Try.func9 rfl rfl) rfl rfl ⟨vgt rfl hq, vgt rfl hq, trivial⟩) ?_
  refine AOps.consG (OpG.guard rfl rfl rfl rfl rfl fun hq => op_not rfl rfl (vgt rfl hq)) ?_
  refine AOps.cons (op_all rfl rfl (vt rfl) (vt rfl)) rfl ?_
  refine AOps.cons (op_assign (A := rd kbool (((((((((decide ((x2.1.length : Int) = 2)) && e5.Group) && (decide (e6.Port = 7))) && (decide (e7.Max = 0))) && (decide ((((Vector.get x2.2 (⟨5, by decide⟩ : _root_.Fin 24)).Mask).Lo) = (4096 : BitVec 64)))) && (decide ((x4.length : Int) = 1))) && (decide (((Vector.get e8.Header (⟨5, by decide⟩ : _root_.Fin 24)).Lo) = (4096 : BitVec 64)))) && x9) && (!x11))) rfl rfl (vt rfl)) rfl ?_
  refine AOps.nil ?_
  refine AW.ret ?_
  obtain rfl := Option.some.inj h
  exact ret1 Try.results5 rfl (out_tmp rfl)
-- weirbox/weirboxref02.And
def F61 (a1 : Wide) (b2 : Wide) : Option Wide :=
  some (⟨(a1.Hi &&& b2.Hi), (a1.Lo &&& b2.Lo)⟩ : Wide)
theorem c61 (a1 : Wide) (b2 : Wide) (r : Wide) (h : F61 a1 b2 = some r) : PCon Try.prog 61 [rd kWide a1, rd kWide b2] (rd kWide r) := by
  refine PCon.of (Con.intro0 Try.func61 rfl Try.ntmps61 rfl fun w H => ?_)
  unfold F61 at h
  refine AW.seq ?_
  refine AW.region ?_
  refine AOps.consT rfl (op_box 3 rfl rfl (vt rfl)) ?_
  rintro _ ⟨g3, rfl⟩
  refine AOps.consT rfl (op_box 4 rfl rfl (vt rfl)) ?_
  rintro _ ⟨g4, rfl⟩
  refine AOps.consT rfl (op_alloc 5 rfl rfl zr25) ?_
  rintro _ ⟨g5, rfl⟩
  refine AOps.nil ?_
  refine AW.seq ?_
  refine AW.region ?_
  refine AOps.cons (op_field lWide_0 rfl rfl fl25_0 (vt rfl)) rfl ?_
  refine AOps.cons (op_load rfl rfl ty23 (vt rfl) (i := 3) rfl) rfl ?_
  refine AOps.cons (op_field lWide_0 rfl rfl fl25_0 (vt rfl)) rfl ?_
  refine AOps.cons (op_load rfl rfl ty23 (vt rfl) (i := 4) rfl) rfl ?_
  refine AOps.cons (op_and rfl rfl (vt rfl) (vt rfl)) rfl ?_
  refine AOps.cons (op_field lWide_1 rfl rfl fl25_1 (vt rfl)) rfl ?_
  refine AOps.cons (op_load rfl rfl ty23 (vt rfl) (i := 3) rfl) rfl ?_
  refine AOps.cons (op_field lWide_1 rfl rfl fl25_1 (vt rfl)) rfl ?_
  refine AOps.cons (op_load rfl rfl ty23 (vt rfl) (i := 4) rfl) rfl ?_
  refine AOps.cons (op_and rfl rfl (vt rfl) (vt rfl)) rfl ?_
  refine AOps.cons (op_build (ps := [(0, .tmp 9), (1, .tmp 14)]) (x := (⟨(a1.Hi &&& b2.Hi), (a1.Lo &&& b2.Lo)⟩ : Wide)) rfl rfl rfl (by kernel_rfl) zr25 ⟨_, _, lWide_0, _, by kernel_rfl, (vt rfl), _, _, lWide_1, _, by kernel_rfl, (vt rfl), rfl⟩) rfl ?_
  refine AOps.cons (op_store rfl rfl ty25 (vt rfl) (i := 5) rfl (vt rfl)) rfl ?_
  refine AOps.nil ?_
  refine AW.ret ?_
  obtain rfl := Option.some.inj h
  exact ret1 Try.results61 rfl (out_cell rfl (i := 5) rfl ty25)
-- weirbox/weirboxref05.Clean
def F42 (t1 : Tern) : Option Tern :=
  (F61 t1.Value t1.Mask).bind fun x4 => some (⟨x4, t1.Mask⟩ : Tern)
theorem c42 (t1 : Tern) (r : Tern) (h : F42 t1 = some r) : PCon Try.prog 42 [rd kTern t1] (rd kTern r) := by
  refine PCon.of (Con.intro0 Try.func42 rfl Try.ntmps42 rfl fun w H => ?_)
  unfold F42 at h
  refine AW.seq ?_
  refine AW.region ?_
  refine AOps.consT rfl (op_box 2 rfl rfl (vt rfl)) ?_
  rintro _ ⟨g2, rfl⟩
  refine AOps.consT rfl (op_alloc 3 rfl rfl zr27) ?_
  rintro _ ⟨g3, rfl⟩
  refine AOps.nil ?_
  refine AW.seq ?_
  obtain ⟨x4, hx4, h⟩ := bsome h
  refine AW.regionAny [⟨[1], [3], [], []⟩, ⟨[3], [4], [2], []⟩, ⟨[1], [5], [], []⟩, ⟨[5], [6], [2], []⟩, ⟨[4, 6], [7], [], []⟩, ⟨[1], [8], [], []⟩, ⟨[8], [9], [2], []⟩, ⟨[7, 9], [10], [], []⟩, ⟨[2, 10], [], [3], [3]⟩] mixed (by kernel_rfl) ?_
  refine SeqA.cons (loc [1] [] rfl rfl fun S hs hr => op_field lTern_0 rfl rfl fl27_0 (vt ((hs 1 rfl).trans rfl))) ⟨rfl, rfl, rfl, rfl⟩ ?_
  refine SeqA.cons (loc [3] [2] rfl rfl fun S hs hr => op_load rfl rfl ty25 (vt ((hs 3 rfl).trans rfl)) (i := 2) ((hr 2 rfl).trans rfl)) ⟨rfl, rfl, rfl, rfl⟩ ?_
  refine SeqA.cons (loc [1] [] rfl rfl fun S hs hr => op_field lTern_1 rfl rfl fl27_1 (vt ((hs 1 rfl).trans rfl))) ⟨rfl, rfl, rfl, rfl⟩ ?_
  refine SeqA.cons (loc [5] [2] rfl rfl fun S hs hr => op_load rfl rfl ty25 (vt ((hs 5 rfl).trans rfl)) (i := 2) ((hr 2 rfl).trans rfl)) ⟨rfl, rfl, rfl, rfl⟩ ?_
  refine SeqA.cons (loc [4, 6] [] rfl rfl fun S hs hr => op_call (xs := [.tmp 4, .tmp 6]) (c61 _ _ _ hx4) (Ent.mk Try.func61 rfl rfl) rfl rfl ⟨vt ((hs 4 rfl).trans rfl), vt ((hs 6 rfl).trans rfl), trivial⟩) ⟨rfl, rfl, rfl, rfl⟩ ?_
  refine SeqA.cons (loc [1] [] rfl rfl fun S hs hr => op_field lTern_1 rfl rfl fl27_1 (vt ((hs 1 rfl).trans rfl))) ⟨rfl, rfl, rfl, rfl⟩ ?_
  refine SeqA.cons (loc [8] [2] rfl rfl fun S hs hr => op_load rfl rfl ty25 (vt ((hs 8 rfl).trans rfl)) (i := 2) ((hr 2 rfl).trans rfl)) ⟨rfl, rfl, rfl, rfl⟩ ?_
  refine SeqA.cons (loc [7, 9] [] rfl rfl fun S hs hr => op_build (ps := [(0, .tmp 7), (1, .tmp 9)]) (x := (⟨x4, t1.Mask⟩ : Tern)) rfl rfl rfl (by kernel_rfl) zr27 ⟨_, _, lTern_0, _, by kernel_rfl, (vt ((hs 7 rfl).trans rfl)), _, _, lTern_1, _, by kernel_rfl, (vt ((hs 9 rfl).trans rfl)), rfl⟩) ⟨rfl, rfl, rfl, rfl⟩ ?_
  refine SeqA.cons (locr [2, 10] [3] rfl fun S hs hr => op_store rfl rfl ty27 (vt ((hs 2 rfl).trans rfl)) (i := 3) ((hr 3 rfl).trans rfl) (vt ((hs 10 rfl).trans rfl))) ⟨rfl, rfl, rfl, rfl⟩ ?_
  refine AW.ret ?_
  obtain rfl := Option.some.inj h
  exact ret1 Try.results42 rfl (out_cell rfl (i := 3) rfl ty27)
end Go.Proofs.Ytokmmcflinnfiab.W
