/- GaF2: a part of the proof. -/
import Derived.Test.YtokmmcflinnfiaaGaF1
set_option linter.unusedVariables false
set_option linter.unusedSimpArgs false
namespace Go.Proofs.Ytokmmcflinnfiaa.W
open Go Go.Wb
-- weirbox/envs.Of
def F22 (l1 : (List Group)) : Option (Itr Env) :=
  some (Itr.mk fun σ y s => F70 σ y s l1)
theorem c22 (l1 : (List Group)) (r : (Itr Env)) (h : F22 l1 = some r) : PCon Try.prog 22 [rd (ksl kGroup) l1] (seqA Try.prog kEnv r) := by
  refine PCon.of (Con.intro0 Try.func22 rfl Try.ntmps22 rfl fun w H => ?_)
  unfold F22 at h
  refine AW.seq ?_
  refine AW.region ?_
  refine AOps.consT rfl (op_box 2 rfl rfl (vt rfl)) ?_
  rintro _ ⟨g2, rfl⟩
  refine AOps.cons (op_assign (A := raw .nilFunc) rfl rfl vc) rfl ?_
  refine AOps.nil ?_
  refine AW.seq ?_
  refine AW.freezeB 1 2 rfl rfl rfl ?_
  refine AW.region ?_
  refine AOps.cons (op_seq (Itr.mk fun σ y s => F70 σ y s l1) (cs := [.tmp 1]) (CAs := [rp (ksl kGroup) l1]) rfl rfl (Ent.mk Try.func70 rfl rfl) ⟨vt rfl, trivial⟩ (fun σ y L s r h => c70 σ y L s l1 r h)) rfl ?_
  refine AOps.cons (op_assign (A := seqA Try.prog kEnv (Itr.mk fun σ y s => F70 σ y s l1)) rfl rfl (vt rfl)) rfl ?_
  refine AOps.nil ?_
  refine AW.ret ?_
  obtain rfl := Option.some.inj h
  exact ret1 Try.results22 rfl (out_tmp rfl)
-- slices.AppendSeq[[]weirbox/api.Env,weirbox/api.Env]
def F112 (q : Itr Env) : Option (List Env) := collect q
theorem c112o (q : Itr Env) (r : List Env) (h : F112 q = some r) : Con Try.prog 112 [raw (.slice none 0 0), seqA Try.prog kEnv q] emp (fun v => raw v) (fun v => Row v 31 kEnv r) := by
  refine Con.intro0 Try.func112 rfl Try.ntmps112 rfl fun w H => ?_
  have h := collect_of h
  refine AW.newnil 1001 31 kEnv ?_
  refine AW.seq ?_
  refine AW.region ?_
  refine AOps.consT rfl (op_box (k := kraw) 3 rfl rfl (vkr (vt rfl) rfl)) ?_
  rintro _ ⟨g, rfl⟩
  refine AOps.cons (op_assign (A := raw (.slice none 0 0)) rfl rfl vc) rfl ?_
  refine AOps.pack 3 1001 (by decide) rfl rfl ?_
  refine AOps.nil ?_
  refine AW.seq ?_
  refine AW.seq ?_
  refine AW.region ?_
  refine AOps.cons (op_move (A := seqA Try.prog kEnv q) rfl rfl (vt rfl)) rfl ?_
  refine AOps.nil ?_
  refine AW.block ?_
  refine AW.fit (d := []) (L := [(2, ptrL g (Lens.id kraw)), (6, seqA Try.prog kEnv q)]) (M := [(3, BoxRow g 26 31 kEnv [])]) ⟨rfl, ⟨rfl, rfl, trivial⟩, ⟨rfl, trivial⟩⟩ ?_
  refine AW.rangeFunc (fun x => [rd kEnv x]) collectF (fun s => ress [(3, BoxRow g 26 31 kEnv s)]) (fun _ _ => ress []) [(2, ptrL g (Lens.id kraw))]
    (fun s x S1 => ∃ g5, Fit S1 [] [(2, ptrL g (Lens.id kraw)), (5, ptrL g5 (Lens.id kEnv))] [(3, BoxRow g 26 31 kEnv s), (6, Blk g5 31 kEnv x)]) 1003 (s0 := []) (sE := .go r)
    rfl (vt rfl) ⟨rfl, inferInstance, trivial⟩ rfl (fun _ => rfl) (by intro p hp; have hp : p ∈ [7] := hp; rw [List.mem_singleton.1 hp]; show 7 < 13; decide) ?ha ?hb (fun Lf => ⟨top, _, _, Lf, _, _, h, rfl, rfl, rfl, rfl⟩) ?he
  case ha =>
    intro s x r' hF l w H X
    refine AW.region ?_
    refine AOps.consT rfl (op_alloc 6 rfl rfl zr31) ?_
    rintro _ ⟨g5, rfl⟩
    refine AOps.cons (op_store rfl rfl ty31 (vt rfl) (i := 6) rfl (vt rfl)) rfl ?_
    refine AOps.nil ?_
    exact ⟨rfl, g5, rfl, ⟨rfl, rfl, trivial⟩, ⟨rfl, rfl, trivial⟩⟩
  case hb =>
    rintro s x r' hF S1 ⟨g5, hfit⟩ l w H X
    refine AW.fit hfit ?_
    refine AW.bodyOf (M := fun s => [(3, BoxRow g 26 31 kEnv s)]) (Mx := fun _ _ => []) ?_
    obtain ⟨m, hm, hF⟩ := bsome hF
    cases hF
    refine AW.block ?_
    refine AW.unbox 3 1001 (by decide) rfl rfl fun v => ?_
    refine AW.region ?_
    refine AOps.cons (op_loadr (i := 3) rfl rfl tyr26 (vt rfl) rfl) rfl ?_
    refine AOps.cons (op_load rfl rfl ty31 (vt rfl) (i := 6) rfl) rfl ?_
    refine AOps.cons (op_buildSliceR (ps := [(0, .tmp 9)]) (l := [x]) rfl rfl sl26 zr31 rfl rfl ⟨_, _, Lens.idx 1 kEnv 0 (by decide), _, rfl, vt rfl, rfl⟩ rfl) rfl ?_
    refine AOps.consT rfl (op_append' 1001 hm rfl rfl el26 (vt rfl) rfl (vt rfl)) ?_
    rintro _ ⟨v2, rfl⟩
    refine AOps.cons (op_store rfl rfl tyr26 (vt rfl) (i := 3) rfl (vrow (i := 1001) rfl rfl)) rfl ?_
    refine AOps.pack 3 1001 (by decide) rfl rfl ?_
    refine AOps.nil ?_
    exact ⟨_, rfl, rfl, trivial⟩
  case he =>
    intro D
    refine AW.unbox 3 1001 (by decide) rfl rfl fun v => ?_
    refine AW.seq ?_
    refine AW.region ?_
    refine AOps.cons (op_loadr (i := 3) rfl rfl tyr26 (vt rfl) rfl) rfl ?_
    refine AOps.cons (op_assign (A := raw v) rfl rfl (vt rfl)) rfl ?_
    refine AOps.nil ?_
    refine AW.ret ?_
    exact ⟨rfl, 1003, rfl, ret1R (i := 1001) Try.results112 rfl rfl rfl⟩
theorem c112 (q : Itr Env) (r : List Env) (h : F112 q = some r) : PCon Try.prog 112 [raw (.slice none 0 0), seqA Try.prog kEnv q] (rd (ksl kEnv) r) := PCon.of_row (c112o q r h)
-- slices.Collect[weirbox/api.Env]
def F63 (seq1 : (Itr Env)) : Option (List Env) :=
  (F112 seq1).bind fun x2 => some x2
theorem c63 (seq1 : (Itr Env)) (r : (List Env)) (h : F63 seq1 = some r) : PCon Try.prog 63 [seqA Try.prog kEnv seq1] (rd (ksl kEnv) r) := by
  refine PCon.of (Con.intro0 Try.func63 rfl Try.ntmps63 rfl fun w H => ?_)
  unfold F63 at h
  refine AW.seq ?_
  refine AW.region ?_
  refine AOps.cons (op_assign (A := rd (ksl kEnv) []) rfl rfl vnil) rfl ?_
  refine AOps.nil ?_
  refine AW.seq ?_
  obtain ⟨x2, hx2, h⟩ := bsome h
  refine AW.region ?_
  refine AOps.cons (op_move (A := seqA Try.prog kEnv seq1) rfl rfl (vt rfl)) rfl ?_
  refine AOps.cons (op_call (xs := [.const (Value.slice none 0 0), .tmp 3]) (c112 _ _ hx2) (Ent.mk Try.func112 rfl rfl) rfl rfl ⟨vc, vt rfl, trivial⟩) rfl ?_
  refine AOps.cons (op_assign (A := rd (ksl kEnv) x2) rfl rfl (vt rfl)) rfl ?_
  refine AOps.nil ?_
  refine AW.ret ?_
  obtain rfl := Option.some.inj h
  exact ret1 Try.results63 rfl (out_tmp rfl)
-- weirbox/envs.List
def F14 (l1 : (List Group)) : Option (List Env) :=
  (F22 l1).bind fun x2 => (F63 x2).bind fun x3 => some x3
theorem c14 (l1 : (List Group)) (r : (List Env)) (h : F14 l1 = some r) : PCon Try.prog 14 [rd (ksl kGroup) l1] (rd (ksl kEnv) r) := by
  refine PCon.of (Con.intro0 Try.func14 rfl Try.ntmps14 rfl fun w H => ?_)
  unfold F14 at h
  refine AW.seq ?_
  refine AW.region ?_
  refine AOps.cons (op_assign (A := rd (ksl kEnv) []) rfl rfl vnil) rfl ?_
  refine AOps.nil ?_
  refine AW.seq ?_
  obtain ⟨x2, hx2, h⟩ := bsome h
  obtain ⟨x3, hx3, h⟩ := bsome h
  refine AW.region ?_
  refine AOps.cons (op_move (A := rd (ksl kGroup) l1) rfl rfl (vt rfl)) rfl ?_
  refine AOps.cons (op_call (xs := [.tmp 3]) (c22 _ _ hx2) (Ent.mk Try.func22 rfl rfl) rfl rfl ⟨vt rfl, trivial⟩) rfl ?_
  refine AOps.cons (op_call (xs := [.tmp 4]) (c63 _ _ hx3) (Ent.mk Try.func63 rfl rfl) rfl rfl ⟨vt rfl, trivial⟩) rfl ?_
  refine AOps.cons (op_assign (A := rd (ksl kEnv) x3) rfl rfl (vt rfl)) rfl ?_
  refine AOps.nil ?_
  refine AW.ret ?_
  obtain rfl := Option.some.inj h
  exact ret1 Try.results14 rfl (out_tmp rfl)
-- slices.Index[[]int,int]
def F113_l1 (s1 : (List Int)) (v2 : Int) : Nat → Nat → Option Int
  | 0, i3 => some (-1)
  | m4 + 1, i3 => (lget s1 (i3 : Int)).bind fun e5 => (bif (decide (v2 = e5)) then some (i3 : Int) else (F113_l1 s1 v2 m4) (i3 + 1))
def F113 (s1 : (List Int)) (v2 : Int) : Option Int :=
  F113_l1 s1 v2 ((s1.length : Int) : Int).toNat 0
theorem c113 (s1 : (List Int)) (v2 : Int) (r : Int) (h : F113 s1 v2 = some r) : PCon Try.prog 113 [rd (ksl (kint .i64)) s1, rd (kint .i64) v2] (rd (kint .i64) r) := by
  refine PCon.of (Con.intro0 Try.func113 rfl Try.ntmps113 rfl fun w H => ?_)
  unfold F113 at h
  refine AW.seq ?_
  refine AW.region ?_
  refine AOps.cons (op_assign (A := rd (kint .i64) 0) rfl rfl (vk rfl)) rfl ?_
  refine AOps.nil ?_
  refine AW.seq ?_
  refine AW.seq ?_
  refine AW.region ?_
  refine AOps.cons (op_move (A := rd (ksl (kint .i64)) s1) rfl rfl (vt rfl)) rfl ?_
  refine AOps.cons (op_len' rfl rfl sl29 (vt rfl)) rfl ?_
  refine AOps.cons (op_move (A := rd (kint .i64) 0) rfl rfl (vk rfl)) rfl ?_
  refine AOps.nil ?_
  refine AW.block ?_
  refine AW.loopG (d := []) (ν := Nat × Nat) (fun n => Cnt (s1.length : Int) n.2 n.1 ∧ F113_l1 s1 v2 n.1 n.2 = some r) (fun n => n.1) (fun n => [(0, rd (ksl (kint .i64)) s1), (1, rd (kint .i64) v2), (7, rd (kint .i64) (s1.length : Int)), (8, rd (kint .i64) (n.2 : Int))]) (fun n => []) (((s1.length : Int) : Int).toNat, 0) ⟨Cnt.start _, h⟩ ⟨rfl, ⟨rfl, rfl, rfl, rfl, trivial⟩, trivial⟩ ?_
  rintro ⟨m4, i3⟩ ⟨hsf1, h⟩
  change Cnt (s1.length : Int) i3 m4 at hsf1
  change F113_l1 s1 v2 m4 i3 = some r at h
  change AW _ _ _ ⟨slots [(0, rd (ksl (kint .i64)) s1), (1, rd (kint .i64) v2), (7, rd (kint .i64) (s1.length : Int)), (8, rd (kint .i64) (i3 : Int))], ress [], _⟩
  cases m4 with
  | zero =>
    unfold F113_l1 at h
    refine AW.seq ?_
    refine AW.region ?_
    refine AOps.cons (op_lss rfl rfl (vt rfl) (vt rfl)) rfl ?_
    refine AOps.nil ?_
    refine AW.seq ?_
    refine AW.cond (vt rfl) (fun hc => absurd (of_decide_eq_true hc) hsf1.zero) (fun hc => ?_)
    refine AW.exit ?_
    refine AW.seq ?_
    refine AW.region ?_
    refine AOps.cons (op_assign (A := rd (kint .i64) (-1)) rfl rfl (vk rfl)) rfl ?_
    refine AOps.nil ?_
    refine AW.ret ?_
    obtain rfl := Option.some.inj h
    exact ret1 Try.results113 rfl (out_tmp rfl)
  | succ m4 =>
    unfold F113_l1 at h
    generalize hgo1 : F113_l1 s1 v2 m4 = go1 at h
    refine AW.seq ?_
    refine AW.region ?_
    refine AOps.cons (op_lss rfl rfl (vt rfl) (vt rfl)) rfl ?_
    refine AOps.nil ?_
    refine AW.seq ?_
    refine AW.cond (vt rfl) (fun hc => ?_) (fun hc => absurd hsf1.succ (of_decide_eq_false hc))
    have hlti3 := of_decide_eq_true hc
    refine AW.skip ?_
    refine AW.seq ?_
    refine AW.block ?_
    refine AW.seq ?_
    refine AW.region ?_
    refine AOps.cons (op_move (A := rd (kint .i64) (i3 : Int)) rfl rfl (vt rfl)) rfl ?_
    refine AOps.cons (op_assign (A := rd (kint .i64) (i3 : Int)) rfl rfl (vt rfl)) rfl ?_
    refine AOps.nil ?_
    refine AW.seq ?_
    obtain ⟨e5, he5, h⟩ := bsome h
    refine AW.region ?_
    refine AOps.cons (op_move (A := rd (kint .i64) v2) rfl rfl (vt rfl)) rfl ?_
    refine AOps.cons (op_move (A := rd (ksl (kint .i64)) s1) rfl rfl (vt rfl)) rfl ?_
    refine AOps.cons (op_move (A := rd (kint .i64) (i3 : Int)) rfl rfl (vt rfl)) rfl ?_
    refine AOps.cons (op_indexs' rfl rfl sl29 (vt rfl) (vt rfl) he5) rfl ?_
    refine AOps.cons (op_loadp rfl rfl ty3 (vt rfl)) rfl ?_
    refine AOps.cons (op_eql rfl rfl (vt rfl) (vt rfl)) rfl ?_
    refine AOps.nil ?_
    refine AW.cond (vt rfl) (fun hc => ?_) (fun hc => ?_)
    · have h := cond_t hc h
      refine AW.seq ?_
      refine AW.region ?_
      refine AOps.cons (op_move (A := rd (kint .i64) (i3 : Int)) rfl rfl (vt rfl)) rfl ?_
      refine AOps.cons (op_assign (A := rd (kint .i64) (i3 : Int)) rfl rfl (vt rfl)) rfl ?_
      refine AOps.nil ?_
      refine AW.ret ?_
      obtain rfl := Option.some.inj h
      exact ret1 Try.results113 rfl (out_tmp rfl)
    · have h := cond_f hc h
      refine AW.skip ?_
      refine AW.region ?_
      refine AOps.cons (op_incr (t := 7) rfl rfl (vt rfl) (vk rfl) (vt rfl) hlti3) rfl ?_
      refine AOps.cons (op_move (A := rd (kint .i64) ((i3 + 1 : Nat) : Int)) rfl rfl (vt rfl)) rfl ?_
      refine AOps.nil ?_
      subst hgo1
      exact ⟨(m4, i3 + 1), Nat.lt_succ_self _, ⟨hsf1.next, h⟩, ⟨rfl, ⟨rfl, rfl, rfl, rfl, trivial⟩, trivial⟩⟩
-- slices.Contains[[]int,int]
def F68 (s1 : (List Int)) (v2 : Int) : Option Bool :=
  (F113 s1 v2).bind fun x3 => some (decide (x3 ≥ 0))
theorem c68 (s1 : (List Int)) (v2 : Int) (r : Bool) (h : F68 s1 v2 = some r) : PCon Try.prog 68 [rd (ksl (kint .i64)) s1, rd (kint .i64) v2] (rd kbool r) := by
  refine PCon.of (Con.intro0 Try.func68 rfl Try.ntmps68 rfl fun w H => ?_)
  unfold F68 at h
  refine AW.seq ?_
  refine AW.region ?_
  refine AOps.cons (op_assign (A := rd kbool false) rfl rfl vb) rfl ?_
  refine AOps.nil ?_
  refine AW.seq ?_
  obtain ⟨x3, hx3, h⟩ := bsome h
  refine AW.region ?_
  refine AOps.cons (op_move (A := rd (ksl (kint .i64)) s1) rfl rfl (vt rfl)) rfl ?_
  refine AOps.cons (op_move (A := rd (kint .i64) v2) rfl rfl (vt rfl)) rfl ?_
  refine AOps.cons (op_call (xs := [.tmp 5, .tmp 6]) (c113 _ _ _ hx3) (Ent.mk Try.func113 rfl rfl) rfl rfl ⟨vt rfl, vt rfl, trivial⟩) rfl ?_
  refine AOps.cons (op_geq rfl rfl (vt rfl) (vk rfl)) rfl ?_
  refine AOps.cons (op_assign (A := rd kbool (decide (x3 ≥ 0))) rfl rfl (vt rfl)) rfl ?_
  refine AOps.nil ?_
  refine AW.ret ?_
  obtain rfl := Option.some.inj h
  exact ret1 Try.results68 rfl (out_tmp rfl)
-- weirbox/env.Up
def F19 (e1 : Env) (port2 : Int) : Option Bool :=
  (F68 e1.Down port2).bind fun x4 => some (!x4)
theorem c19 (e1 : Env) (port2 : Int) (r : Bool) (h : F19 e1 port2 = some r) : PCon Try.prog 19 [rd kEnv e1, rd (kint .i64) port2] (rd kbool r) := by
  refine PCon.of (Con.intro0 Try.func19 rfl Try.ntmps19 rfl fun w H => ?_)
  unfold F19 at h
  refine AW.seq ?_
  refine AW.region ?_
  refine AOps.consT rfl (op_box 3 rfl rfl (vt rfl)) ?_
  rintro _ ⟨g3, rfl⟩
  refine AOps.cons (op_assign (A := rd kbool false) rfl rfl vb) rfl ?_
  refine AOps.nil ?_
  refine AW.seq ?_
  obtain ⟨x4, hx4, h⟩ := bsome h
  refine AW.region ?_
  refine AOps.cons (op_field lEnv_1 rfl rfl fl31_1 (vt rfl)) rfl ?_
  refine AOps.cons (op_load rfl rfl ty29 (vt rfl) (i := 3) rfl) rfl ?_
  refine AOps.cons (op_move (A := rd (kint .i64) port2) rfl rfl (vt rfl)) rfl ?_
  refine AOps.cons (op_call (xs := [.tmp 6, .tmp 7]) (c68 _ _ _ hx4) (Ent.mk Try.func68 rfl rfl) rfl rfl ⟨vt rfl, vt rfl, trivial⟩) rfl ?_
  refine AOps.cons (op_not rfl rfl (vt rfl)) rfl ?_
  refine AOps.cons (op_assign (A := rd kbool (!x4)) rfl rfl (vt rfl)) rfl ?_
  refine AOps.nil ?_
  refine AW.ret ?_
  obtain rfl := Option.some.inj h
  exact ret1 Try.results19 rfl (out_tmp rfl)
-- weirbox/envs.Fold$1
def F65 (p1 : Int) (c2 : Env) : Option Bool :=
  (F19 c2 p1).bind fun x3 => some x3
theorem c65 (p1 : Int) (c2 : Env) (r : Bool) (h : F65 p1 c2 = some r) : PCon Try.prog 65 [rd (kint .i64) p1, rp kEnv c2] (rd kbool r) := by
  refine PCon.of (Con.intro0 Try.func65 rfl Try.ntmps65 rfl fun w H => ?_)
  unfold F65 at h
  refine AW.seq ?_
  refine AW.region ?_
  refine AOps.cons (op_assign (A := rd kbool false) rfl rfl vb) rfl ?_
  refine AOps.nil ?_
  refine AW.seq ?_
  obtain ⟨x3, hx3, h⟩ := bsome h
  refine AW.region ?_
  refine AOps.cons (op_loadp rfl rfl ty31 (vt rfl)) rfl ?_
  refine AOps.cons (op_move (A := rd (kint .i64) p1) rfl rfl (vt rfl)) rfl ?_
  refine AOps.cons (op_call (xs := [.tmp 4, .tmp 5]) (c19 _ _ _ hx3) (Ent.mk Try.func19 rfl rfl) rfl rfl ⟨vt rfl, vt rfl, trivial⟩) rfl ?_
  refine AOps.cons (op_assign (A := rd kbool x3) rfl rfl (vt rfl)) rfl ?_
  refine AOps.nil ?_
  refine AW.ret ?_
  obtain rfl := Option.some.inj h
  exact ret1 Try.results65 rfl (out_tmp rfl)
-- slices.IndexFunc[[]int,int]
def F67_l1 (s1 : (List Int)) (f2 : (Int → Option Bool)) : Nat → Nat → Option Int
  | 0, i3 => some (-1)
  | m4 + 1, i3 => (lget s1 (i3 : Int)).bind fun e5 => (f2 e5).bind fun x6 => (bif x6 then some (i3 : Int) else (F67_l1 s1 f2 m4) (i3 + 1))
def F67 (s1 : (List Int)) (f2 : (Int → Option Bool)) : Option Int :=
  F67_l1 s1 f2 ((s1.length : Int) : Int).toNat 0
theorem c67 (s1 : (List Int)) (f2 : (Int → Option Bool)) (r : Int) (h : F67 s1 f2 = some r) : PCon Try.prog 67 [rd (ksl (kint .i64)) s1, fn1 Try.prog (kint .i64) kbool f2] (rd (kint .i64) r) := by
  refine PCon.of (Con.intro0 Try.func67 rfl Try.ntmps67 rfl fun w H => ?_)
  unfold F67 at h
  refine AW.seq ?_
  refine AW.region ?_
  refine AOps.cons (op_assign (A := rd (kint .i64) 0) rfl rfl (vk rfl)) rfl ?_
  refine AOps.nil ?_
  refine AW.seq ?_
  refine AW.seq ?_
  refine AW.region ?_
  refine AOps.cons (op_move (A := rd (ksl (kint .i64)) s1) rfl rfl (vt rfl)) rfl ?_
  refine AOps.cons (op_len' rfl rfl sl29 (vt rfl)) rfl ?_
  refine AOps.cons (op_move (A := rd (kint .i64) 0) rfl rfl (vk rfl)) rfl ?_
  refine AOps.nil ?_
  refine AW.block ?_
  refine AW.loopG (d := []) (ν := Nat × Nat) (fun n => Cnt (s1.length : Int) n.2 n.1 ∧ F67_l1 s1 f2 n.1 n.2 = some r) (fun n => n.1) (fun n => [(0, rd (ksl (kint .i64)) s1), (1, fn1 Try.prog (kint .i64) kbool f2), (7, rd (kint .i64) (s1.length : Int)), (8, rd (kint .i64) (n.2 : Int))]) (fun n => []) (((s1.length : Int) : Int).toNat, 0) ⟨Cnt.start _, h⟩ ⟨rfl, ⟨rfl, rfl, rfl, rfl, trivial⟩, trivial⟩ ?_
  rintro ⟨m4, i3⟩ ⟨hsf1, h⟩
  change Cnt (s1.length : Int) i3 m4 at hsf1
  change F67_l1 s1 f2 m4 i3 = some r at h
  change AW _ _ _ ⟨slots [(0, rd (ksl (kint .i64)) s1), (1, fn1 Try.prog (kint .i64) kbool f2), (7, rd (kint .i64) (s1.length : Int)), (8, rd (kint .i64) (i3 : Int))], ress [], _⟩
  cases m4 with
  | zero =>
    unfold F67_l1 at h
    refine AW.seq ?_
    refine AW.region ?_
    refine AOps.cons (op_lss rfl rfl (vt rfl) (vt rfl)) rfl ?_
    refine AOps.nil ?_
    refine AW.seq ?_
    refine AW.cond (vt rfl) (fun hc => absurd (of_decide_eq_true hc) hsf1.zero) (fun hc => ?_)
    refine AW.exit ?_
    refine AW.seq ?_
    refine AW.region ?_
    refine AOps.cons (op_assign (A := rd (kint .i64) (-1)) rfl rfl (vk rfl)) rfl ?_
    refine AOps.nil ?_
    refine AW.ret ?_
    obtain rfl := Option.some.inj h
    exact ret1 Try.results67 rfl (out_tmp rfl)
  | succ m4 =>
    unfold F67_l1 at h
    generalize hgo1 : F67_l1 s1 f2 m4 = go1 at h
    refine AW.seq ?_
    refine AW.region ?_
    refine AOps.cons (op_lss rfl rfl (vt rfl) (vt rfl)) rfl ?_
    refine AOps.nil ?_
    refine AW.seq ?_
    refine AW.cond (vt rfl) (fun hc => ?_) (fun hc => absurd hsf1.succ (of_decide_eq_false hc))
    have hlti3 := of_decide_eq_true hc
    refine AW.skip ?_
    refine AW.seq ?_
    refine AW.block ?_
    refine AW.seq ?_
    refine AW.region ?_
    refine AOps.cons (op_move (A := rd (kint .i64) (i3 : Int)) rfl rfl (vt rfl)) rfl ?_
    refine AOps.cons (op_assign (A := rd (kint .i64) (i3 : Int)) rfl rfl (vt rfl)) rfl ?_
    refine AOps.nil ?_
    refine AW.seq ?_
    obtain ⟨e5, he5, h⟩ := bsome h
    obtain ⟨x6, hx6, h⟩ := bsome h
    refine AW.region ?_
    refine AOps.cons (op_move (A := fn1 Try.prog (kint .i64) kbool f2) rfl rfl (vt rfl)) rfl ?_
    refine AOps.cons (op_move (A := rd (ksl (kint .i64)) s1) rfl rfl (vt rfl)) rfl ?_
    refine AOps.cons (op_move (A := rd (kint .i64) (i3 : Int)) rfl rfl (vt rfl)) rfl ?_
    refine AOps.cons (op_indexs' rfl rfl sl29 (vt rfl) (vt rfl) he5) rfl ?_
    refine AOps.cons (op_loadp rfl rfl ty3 (vt rfl)) rfl ?_
    refine AOps.cons (op_call1 hx6 rfl rfl (vt rfl) (vt rfl)) rfl ?_
    refine AOps.nil ?_
    refine AW.cond (vt rfl) (fun hc => ?_) (fun hc => ?_)
    · have h := cond_t hc h
      refine AW.seq ?_
      refine AW.region ?_
      refine AOps.cons (op_move (A := rd (kint .i64) (i3 : Int)) rfl rfl (vt rfl)) rfl ?_
      refine AOps.cons (op_assign (A := rd (kint .i64) (i3 : Int)) rfl rfl (vt rfl)) rfl ?_
      refine AOps.nil ?_
      refine AW.ret ?_
      obtain rfl := Option.some.inj h
      exact ret1 Try.results67 rfl (out_tmp rfl)
    · have h := cond_f hc h
      refine AW.skip ?_
      refine AW.region ?_
      refine AOps.cons (op_incr (t := 7) rfl rfl (vt rfl) (vk rfl) (vt rfl) hlti3) rfl ?_
      refine AOps.cons (op_move (A := rd (kint .i64) ((i3 + 1 : Nat) : Int)) rfl rfl (vt rfl)) rfl ?_
      refine AOps.nil ?_
      subst hgo1
      exact ⟨(m4, i3 + 1), Nat.lt_succ_self _, ⟨hsf1.next, h⟩, ⟨rfl, ⟨rfl, rfl, rfl, rfl, trivial⟩, trivial⟩⟩
end Go.Proofs.Ytokmmcflinnfiaa.W
