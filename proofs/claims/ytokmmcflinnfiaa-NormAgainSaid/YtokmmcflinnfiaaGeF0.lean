/- GeF0: a part of the proof. -/
import Derived.Test.YtokmmcflinnfiaaGeT
set_option linter.unusedVariables false
set_option maxRecDepth 4000
set_option linter.unusedSimpArgs false
namespace Go.Proofs.Ytokmmcflinnfiaa.W
open Go Go.Wb
-- slices.IndexFunc[[]weirbox/api.Bucket,weirbox/api.Bucket]
def F149_l1 (s1 : (List Bucket)) (f2 : (Bucket → Option Bool)) : Nat → Nat → Option Int
  | 0, i3 => some (-1)
  | m4 + 1, i3 => (lget s1 (i3 : Int)).bind fun e5 => (f2 e5).bind fun x6 => (bif x6 then some (i3 : Int) else (F149_l1 s1 f2 m4) (i3 + 1))
def F149 (s1 : (List Bucket)) (f2 : (Bucket → Option Bool)) : Option Int :=
  F149_l1 s1 f2 ((s1.length : Int) : Int).toNat 0
theorem c149 (s1 : (List Bucket)) (f2 : (Bucket → Option Bool)) (r : Int) (h : F149 s1 f2 = some r) : PCon Try.prog 149 [rd (ksl kBucket) s1, fn1 Try.prog kBucket kbool f2] (rd (kint .i64) r) := by
  refine PCon.of (Con.intro0 Try.func149 rfl Try.ntmps149 rfl fun w H => ?_)
  unfold F149 at h
  refine AW.seq ?_
  refine AW.region ?_
  refine AOps.cons (op_assign (A := rd (kint .i64) 0) rfl rfl (vk rfl)) rfl ?_
  refine AOps.nil ?_
  refine AW.seq ?_
  refine AW.seq ?_
  refine AW.region ?_
  refine AOps.cons (op_move (A := rd (ksl kBucket) s1) rfl rfl (vt rfl)) rfl ?_
  refine AOps.cons (op_len' rfl rfl sl38 (vt rfl)) rfl ?_
  refine AOps.cons (op_move (A := rd (kint .i64) 0) rfl rfl (vk rfl)) rfl ?_
  refine AOps.nil ?_
  refine AW.block ?_
  refine AW.loopG (d := []) (ν := Nat × Nat) (fun n => Cnt (s1.length : Int) n.2 n.1 ∧ F149_l1 s1 f2 n.1 n.2 = some r) (fun n => n.1) (fun n => [(0, rd (ksl kBucket) s1), (1, fn1 Try.prog kBucket kbool f2), (7, rd (kint .i64) (s1.length : Int)), (8, rd (kint .i64) (n.2 : Int))]) (fun n => []) (((s1.length : Int) : Int).toNat, 0) ⟨Cnt.start _, h⟩ ⟨rfl, ⟨rfl, rfl, rfl, rfl, trivial⟩, trivial⟩ ?_
  rintro ⟨m4, i3⟩ ⟨hsf1, h⟩
  change Cnt (s1.length : Int) i3 m4 at hsf1
  change F149_l1 s1 f2 m4 i3 = some r at h
  change AW _ _ _ ⟨slots [(0, rd (ksl kBucket) s1), (1, fn1 Try.prog kBucket kbool f2), (7, rd (kint .i64) (s1.length : Int)), (8, rd (kint .i64) (i3 : Int))], ress [], _⟩
  cases m4 with
  | zero =>
    unfold F149_l1 at h
    refine AW.seq ?_
    refine AW.region ?_
    refine AOps.cons (op_lss rfl rfl (vt rfl) (vt rfl)) rfl ?_
    refine AOps.nil ?_
    refine AW.seq ?_
    refine AW.cond (vt rfl) (fun hc => absurd (of_decide_eq_true hc) hsf1.zero) (fun hc => ?_)
    refine AW.exit ?_
    refine AW.seq ?_
    refine AW.region ?_
    refine AOps.cons (op_assign (A := rd (kint .i64) (-1)) rfl rfl (vk rfl)) rfl ?_
    refine AOps.nil ?_
    refine AW.ret ?_
    obtain rfl := Option.some.inj h
    exact ret1 Try.results149 rfl (out_tmp rfl)
  | succ m4 =>
    unfold F149_l1 at h
    generalize hgo1 : F149_l1 s1 f2 m4 = go1 at h
    refine AW.seq ?_
    refine AW.region ?_
    refine AOps.cons (op_lss rfl rfl (vt rfl) (vt rfl)) rfl ?_
    refine AOps.nil ?_
    refine AW.seq ?_
    refine AW.cond (vt rfl) (fun hc => ?_) (fun hc => absurd hsf1.succ (of_decide_eq_false hc))
    have hlti3 := of_decide_eq_true hc
    refine AW.skip ?_
    refine AW.seq ?_
    refine AW.block ?_
    refine AW.seq ?_
    refine AW.region ?_
    refine AOps.cons (op_move (A := rd (kint .i64) (i3 : Int)) rfl rfl (vt rfl)) rfl ?_
    refine AOps.cons (op_assign (A := rd (kint .i64) (i3 : Int)) rfl rfl (vt rfl)) rfl ?_
    refine AOps.nil ?_
    refine AW.seq ?_
    obtain ⟨e5, he5, h⟩ := bsome h
    obtain ⟨x6, hx6, h⟩ := bsome h
    refine AW.region ?_
    refine AOps.cons (op_move (A := fn1 Try.prog kBucket kbool f2) rfl rfl (vt rfl)) rfl ?_
    refine AOps.cons (op_move (A := rd (ksl kBucket) s1) rfl rfl (vt rfl)) rfl ?_
    refine AOps.cons (op_move (A := rd (kint .i64) (i3 : Int)) rfl rfl (vt rfl)) rfl ?_
    refine AOps.cons (op_indexs' rfl rfl sl38 (vt rfl) (vt rfl) he5) rfl ?_
    refine AOps.cons (op_loadp rfl rfl ty104 (vt rfl)) rfl ?_
    refine AOps.cons (op_call1 hx6 rfl rfl (vt rfl) (vt rfl)) rfl ?_
    refine AOps.nil ?_
    refine AW.cond (vt rfl) (fun hc => ?_) (fun hc => ?_)
    · have h := cond_t hc h
      refine AW.seq ?_
      refine AW.region ?_
      refine AOps.cons (op_move (A := rd (kint .i64) (i3 : Int)) rfl rfl (vt rfl)) rfl ?_
      refine AOps.cons (op_assign (A := rd (kint .i64) (i3 : Int)) rfl rfl (vt rfl)) rfl ?_
      refine AOps.nil ?_
      refine AW.ret ?_
      obtain rfl := Option.some.inj h
      exact ret1 Try.results149 rfl (out_tmp rfl)
    · have h := cond_f hc h
      refine AW.skip ?_
      refine AW.region ?_
      refine AOps.cons (op_incr (t := 7) rfl rfl (vt rfl) (vk rfl) (vt rfl) hlti3) rfl ?_
      refine AOps.cons (op_move (A := rd (kint .i64) ((i3 + 1 : Nat) : Int)) rfl rfl (vt rfl)) rfl ?_
      refine AOps.nil ?_
      subst hgo1
      exact ⟨(m4, i3 + 1), Nat.lt_succ_self _, ⟨hsf1.next, h⟩, ⟨rfl, ⟨rfl, rfl, rfl, rfl, trivial⟩, trivial⟩⟩
-- slices.ContainsFunc[[]weirbox/api.Bucket,weirbox/api.Bucket]
def F109 (s1 : (List Bucket)) (f2 : (Bucket → Option Bool)) : Option Bool :=
  (F149 s1 f2).bind fun x3 => some (decide (x3 ≥ 0))
theorem c109 (s1 : (List Bucket)) (f2 : (Bucket → Option Bool)) (r : Bool) (h : F109 s1 f2 = some r) : PCon Try.prog 109 [rd (ksl kBucket) s1, fn1 Try.prog kBucket kbool f2] (rd kbool r) := by
  refine PCon.of (Con.intro0 Try.func109 rfl Try.ntmps109 rfl fun w H => ?_)
  unfold F109 at h
  refine AW.seq ?_
  refine AW.region ?_
  refine AOps.cons (op_assign (A := rd kbool false) rfl rfl vb) rfl ?_
  refine AOps.nil ?_
  refine AW.seq ?_
  obtain ⟨x3, hx3, h⟩ := bsome h
  refine AW.region ?_
  refine AOps.cons (op_move (A := rd (ksl kBucket) s1) rfl rfl (vt rfl)) rfl ?_
  refine AOps.cons (op_move (A := fn1 Try.prog kBucket kbool f2) rfl rfl (vt rfl)) rfl ?_
  refine AOps.cons (op_call (xs := [.tmp 5, .tmp 6]) (c149 _ _ _ hx3) (Ent.mk Try.func149 rfl rfl) rfl rfl ⟨vt rfl, vt rfl, trivial⟩) rfl ?_
  refine AOps.cons (op_geq rfl rfl (vt rfl) (vk rfl)) rfl ?_
  refine AOps.cons (op_assign (A := rd kbool (decide (x3 ≥ 0))) rfl rfl (vt rfl)) rfl ?_
  refine AOps.nil ?_
  refine AW.ret ?_
  obtain rfl := Option.some.inj h
  exact ret1 Try.results109 rfl (out_tmp rfl)
-- weirbox/weirboxplain.Acts
def F111 (l1 : (List Action)) : Option Bool :=
  some (decide ((l1.length : Int) ≤ 12))
theorem c111 (l1 : (List Action)) (r : Bool) (h : F111 l1 = some r) : PCon Try.prog 111 [rd (ksl kAction) l1] (rd kbool r) := by
  refine PCon.of (Con.intro0 Try.func111 rfl Try.ntmps111 rfl fun w H => ?_)
  unfold F111 at h
  refine AW.seq ?_
  refine AW.region ?_
  refine AOps.cons (op_assign (A := rd kbool false) rfl rfl vb) rfl ?_
  refine AOps.nil ?_
  refine AW.seq ?_
  refine AW.region ?_
  refine AOps.cons (op_move (A := rd (ksl kAction) l1) rfl rfl (vt rfl)) rfl ?_
  refine AOps.cons (op_len' rfl rfl sl73 (vt rfl)) rfl ?_
  refine AOps.cons (op_leq rfl rfl (vt rfl) (vk rfl)) rfl ?_
  refine AOps.cons (op_assign (A := rd kbool (decide ((l1.length : Int) ≤ 12))) rfl rfl (vt rfl)) rfl ?_
  refine AOps.nil ?_
  refine AW.ret ?_
  obtain rfl := Option.some.inj h
  exact ret1 Try.results111 rfl (out_tmp rfl)
-- weirbox/weirboxplain.Buckets$1
def F110 (x1 : Bucket) : Option Bool :=
  (F111 x1.Acts).bind fun x3 => some (!x3)
theorem c110 (x1 : Bucket) (r : Bool) (h : F110 x1 = some r) : PCon Try.prog 110 [rd kBucket x1] (rd kbool r) := by
  refine PCon.of (Con.intro0 Try.func110 rfl Try.ntmps110 rfl fun w H => ?_)
  unfold F110 at h
  refine AW.seq ?_
  refine AW.region ?_
  refine AOps.consT rfl (op_box 2 rfl rfl (vt rfl)) ?_
  rintro _ ⟨g2, rfl⟩
  refine AOps.cons (op_assign (A := rd kbool false) rfl rfl vb) rfl ?_
  refine AOps.nil ?_
  refine AW.seq ?_
  obtain ⟨x3, hx3, h⟩ := bsome h
  refine AW.region ?_
  refine AOps.cons (op_field lBucket_3 rfl rfl fl104_3 (vt rfl)) rfl ?_
  refine AOps.cons (op_load rfl rfl ty73 (vt rfl) (i := 2) rfl) rfl ?_
  refine AOps.cons (op_call (xs := [.tmp 4]) (c111 _ _ hx3) (Ent.mk Try.func111 rfl rfl) rfl rfl ⟨vt rfl, trivial⟩) rfl ?_
  refine AOps.cons (op_not rfl rfl (vt rfl)) rfl ?_
  refine AOps.cons (op_assign (A := rd kbool (!x3)) rfl rfl (vt rfl)) rfl ?_
  refine AOps.nil ?_
  refine AW.ret ?_
  obtain rfl := Option.some.inj h
  exact ret1 Try.results110 rfl (out_tmp rfl)
-- weirbox/weirboxplain.Buckets
def F62 (l1 : (List Bucket)) (many2 : Int) : Option Bool :=
  (opt (decide ((l1.length : Int) ≤ many2)) (F109 l1 F110)).bind fun x3 => some ((decide ((l1.length : Int) ≤ many2)) && (!x3))
theorem c62 (l1 : (List Bucket)) (many2 : Int) (r : Bool) (h : F62 l1 many2 = some r) : PCon Try.prog 62 [rd (ksl kBucket) l1, rd (kint .i64) many2] (rd kbool r) := by
  refine PCon.of (Con.intro0 Try.func62 rfl Try.ntmps62 rfl fun w H => ?_)
  unfold F62 at h
  refine AW.seq ?_
  refine AW.region ?_
  refine AOps.cons (op_assign (A := rd kbool false) rfl rfl vb) rfl ?_
  refine AOps.nil ?_
  refine AW.seq ?_
  obtain ⟨x3, hx3, h⟩ := bsome h
  refine AW.region ?_
  refine AOps.cons (op_move (A := rd (ksl kBucket) l1) rfl rfl (vt rfl)) rfl ?_
  refine AOps.cons (op_len' rfl rfl sl38 (vt rfl)) rfl ?_
  refine AOps.cons (op_move (A := rd (kint .i64) many2) rfl rfl (vt rfl)) rfl ?_
  refine AOps.cons (op_leq rfl rfl (vt rfl) (vt rfl)) rfl ?_
  refine AOps.cons (op_move (A := rd kbool (decide ((l1.length : Int) ≤ many2))) rfl rfl (vt rfl)) rfl ?_
  refine AOps.consG (OpG.guard rfl rfl rfl rfl rfl fun hq => op_move (A := rd (ksl kBucket) l1) rfl rfl (vt rfl)) ?_
  refine AOps.consG (OpG.guard rfl rfl rfl rfl rfl fun hq => op_call (xs := [.tmp 10, .func 110]) (c109 _ _ _ (opt_t hx3 hq)) (Ent.mk Try.func109 rfl rfl) rfl rfl ⟨vgt rfl hq, vf1 (Ent.mk Try.func110 rfl rfl) c110, trivial⟩) ?_
  refine AOps.consG (OpG.guard rfl rfl rfl rfl rfl fun hq => op_not rfl rfl (vgt rfl hq)) ?_
  refine AOps.cons (op_all rfl rfl (vt rfl) (vt rfl)) rfl ?_
  refine AOps.cons (op_assign (A := rd kbool ((decide ((l1.length : Int) ≤ many2)) && (!x3))) rfl rfl (vt rfl)) rfl ?_
  refine AOps.nil ?_
  refine AW.ret ?_
  obtain rfl := Option.some.inj h
  exact ret1 Try.results62 rfl (out_tmp rfl)
-- weirbox/weirboxplain.Groups$1
def F61 (g1 : Group) (c2 : Int) : Option Bool :=
  (F62 g1.Buckets c2).bind fun x4 => some (!x4)
theorem c61 (g1 : Group) (c2 : Int) (r : Bool) (h : F61 g1 c2 = some r) : PCon Try.prog 61 [rd kGroup g1, rp (kint .i64) c2] (rd kbool r) := by
  refine PCon.of (Con.intro0 Try.func61 rfl Try.ntmps61 rfl fun w H => ?_)
  unfold F61 at h
  refine AW.seq ?_
  refine AW.region ?_
  refine AOps.consT rfl (op_box 3 rfl rfl (vt rfl)) ?_
  rintro _ ⟨g3, rfl⟩
  refine AOps.cons (op_assign (A := rd kbool false) rfl rfl vb) rfl ?_
  refine AOps.nil ?_
  refine AW.seq ?_
  obtain ⟨x4, hx4, h⟩ := bsome h
  refine AW.region ?_
  refine AOps.cons (op_field lGroup_2 rfl rfl fl40_2 (vt rfl)) rfl ?_
  refine AOps.cons (op_load rfl rfl ty38 (vt rfl) (i := 3) rfl) rfl ?_
  refine AOps.cons (op_loadp rfl rfl ty3 (vt rfl)) rfl ?_
  refine AOps.cons (op_call (xs := [.tmp 5, .tmp 6]) (c62 _ _ _ hx4) (Ent.mk Try.func62 rfl rfl) rfl rfl ⟨vt rfl, vt rfl, trivial⟩) rfl ?_
  refine AOps.cons (op_not rfl rfl (vt rfl)) rfl ?_
  refine AOps.cons (op_assign (A := rd kbool (!x4)) rfl rfl (vt rfl)) rfl ?_
  refine AOps.nil ?_
  refine AW.ret ?_
  obtain rfl := Option.some.inj h
  exact ret1 Try.results61 rfl (out_tmp rfl)
-- slices.IndexFunc[[]weirbox/api.Group,weirbox/api.Group]
def F69_l1 (s1 : (List Group)) (f2 : (Group → Option Bool)) : Nat → Nat → Option Int
  | 0, i3 => some (-1)
  | m4 + 1, i3 => (lget s1 (i3 : Int)).bind fun e5 => (f2 e5).bind fun x6 => (bif x6 then some (i3 : Int) else (F69_l1 s1 f2 m4) (i3 + 1))
def F69 (s1 : (List Group)) (f2 : (Group → Option Bool)) : Option Int :=
  F69_l1 s1 f2 ((s1.length : Int) : Int).toNat 0
theorem c69 (s1 : (List Group)) (f2 : (Group → Option Bool)) (r : Int) (h : F69 s1 f2 = some r) : PCon Try.prog 69 [rd (ksl kGroup) s1, fn1 Try.prog kGroup kbool f2] (rd (kint .i64) r) := by
  refine PCon.of (Con.intro0 Try.func69 rfl Try.ntmps69 rfl fun w H => ?_)
  unfold F69 at h
  refine AW.seq ?_
  refine AW.region ?_
  refine AOps.cons (op_assign (A := rd (kint .i64) 0) rfl rfl (vk rfl)) rfl ?_
  refine AOps.nil ?_
  refine AW.seq ?_
  refine AW.seq ?_
  refine AW.region ?_
  refine AOps.cons (op_move (A := rd (ksl kGroup) s1) rfl rfl (vt rfl)) rfl ?_
  refine AOps.cons (op_len' rfl rfl sl22 (vt rfl)) rfl ?_
  refine AOps.cons (op_move (A := rd (kint .i64) 0) rfl rfl (vk rfl)) rfl ?_
  refine AOps.nil ?_
  refine AW.block ?_
  refine AW.loopG (d := []) (ν := Nat × Nat) (fun n => Cnt (s1.length : Int) n.2 n.1 ∧ F69_l1 s1 f2 n.1 n.2 = some r) (fun n => n.1) (fun n => [(0, rd (ksl kGroup) s1), (1, fn1 Try.prog kGroup kbool f2), (7, rd (kint .i64) (s1.length : Int)), (8, rd (kint .i64) (n.2 : Int))]) (fun n => []) (((s1.length : Int) : Int).toNat, 0) ⟨Cnt.start _, h⟩ ⟨rfl, ⟨rfl, rfl, rfl, rfl, trivial⟩, trivial⟩ ?_
  rintro ⟨m4, i3⟩ ⟨hsf1, h⟩
  change Cnt (s1.length : Int) i3 m4 at hsf1
  change F69_l1 s1 f2 m4 i3 = some r at h
  change AW _ _ _ ⟨slots [(0, rd (ksl kGroup) s1), (1, fn1 Try.prog kGroup kbool f2), (7, rd (kint .i64) (s1.length : Int)), (8, rd (kint .i64) (i3 : Int))], ress [], _⟩
  cases m4 with
  | zero =>
    unfold F69_l1 at h
    refine AW.seq ?_
    refine AW.region ?_
    refine AOps.cons (op_lss rfl rfl (vt rfl) (vt rfl)) rfl ?_
    refine AOps.nil ?_
    refine AW.seq ?_
    refine AW.cond (vt rfl) (fun hc => absurd (of_decide_eq_true hc) hsf1.zero) (fun hc => ?_)
    refine AW.exit ?_
    refine AW.seq ?_
    refine AW.region ?_
    refine AOps.cons (op_assign (A := rd (kint .i64) (-1)) rfl rfl (vk rfl)) rfl ?_
    refine AOps.nil ?_
    refine AW.ret ?_
    obtain rfl := Option.some.inj h
    exact ret1 Try.results69 rfl (out_tmp rfl)
  | succ m4 =>
    unfold F69_l1 at h
    generalize hgo1 : F69_l1 s1 f2 m4 = go1 at h
    refine AW.seq ?_
    refine AW.region ?_
    refine AOps.cons (op_lss rfl rfl (vt rfl) (vt rfl)) rfl ?_
    refine AOps.nil ?_
    refine AW.seq ?_
    refine AW.cond (vt rfl) (fun hc => ?_) (fun hc => absurd hsf1.succ (of_decide_eq_false hc))
    have hlti3 := of_decide_eq_true hc
    refine AW.skip ?_
    refine AW.seq ?_
    refine AW.block ?_
    refine AW.seq ?_
    refine AW.region ?_
    refine AOps.cons (op_move (A := rd (kint .i64) (i3 : Int)) rfl rfl (vt rfl)) rfl ?_
    refine AOps.cons (op_assign (A := rd (kint .i64) (i3 : Int)) rfl rfl (vt rfl)) rfl ?_
    refine AOps.nil ?_
    refine AW.seq ?_
    obtain ⟨e5, he5, h⟩ := bsome h
    obtain ⟨x6, hx6, h⟩ := bsome h
    refine AW.region ?_
    refine AOps.cons (op_move (A := fn1 Try.prog kGroup kbool f2) rfl rfl (vt rfl)) rfl ?_
    refine AOps.cons (op_move (A := rd (ksl kGroup) s1) rfl rfl (vt rfl)) rfl ?_
    refine AOps.cons (op_move (A := rd (kint .i64) (i3 : Int)) rfl rfl (vt rfl)) rfl ?_
    refine AOps.cons (op_indexs' rfl rfl sl22 (vt rfl) (vt rfl) he5) rfl ?_
    refine AOps.cons (op_loadp rfl rfl ty40 (vt rfl)) rfl ?_
    refine AOps.cons (op_call1 hx6 rfl rfl (vt rfl) (vt rfl)) rfl ?_
    refine AOps.nil ?_
    refine AW.cond (vt rfl) (fun hc => ?_) (fun hc => ?_)
    · have h := cond_t hc h
      refine AW.seq ?_
      refine AW.region ?_
      refine AOps.cons (op_move (A := rd (kint .i64) (i3 : Int)) rfl rfl (vt rfl)) rfl ?_
      refine AOps.cons (op_assign (A := rd (kint .i64) (i3 : Int)) rfl rfl (vt rfl)) rfl ?_
      refine AOps.nil ?_
      refine AW.ret ?_
      obtain rfl := Option.some.inj h
      exact ret1 Try.results69 rfl (out_tmp rfl)
    · have h := cond_f hc h
      refine AW.skip ?_
      refine AW.region ?_
      refine AOps.cons (op_incr (t := 7) rfl rfl (vt rfl) (vk rfl) (vt rfl) hlti3) rfl ?_
      refine AOps.cons (op_move (A := rd (kint .i64) ((i3 + 1 : Nat) : Int)) rfl rfl (vt rfl)) rfl ?_
      refine AOps.nil ?_
      subst hgo1
      exact ⟨(m4, i3 + 1), Nat.lt_succ_self _, ⟨hsf1.next, h⟩, ⟨rfl, ⟨rfl, rfl, rfl, rfl, trivial⟩, trivial⟩⟩
-- slices.ContainsFunc[[]weirbox/api.Group,weirbox/api.Group]
def F20 (s1 : (List Group)) (f2 : (Group → Option Bool)) : Option Bool :=
  (F69 s1 f2).bind fun x3 => some (decide (x3 ≥ 0))
theorem c20 (s1 : (List Group)) (f2 : (Group → Option Bool)) (r : Bool) (h : F20 s1 f2 = some r) : PCon Try.prog 20 [rd (ksl kGroup) s1, fn1 Try.prog kGroup kbool f2] (rd kbool r) := by
  refine PCon.of (Con.intro0 Try.func20 rfl Try.ntmps20 rfl fun w H => ?_)
  unfold F20 at h
  refine AW.seq ?_
  refine AW.region ?_
  refine AOps.cons (op_assign (A := rd kbool false) rfl rfl vb) rfl ?_
  refine AOps.nil ?_
  refine AW.seq ?_
  obtain ⟨x3, hx3, h⟩ := bsome h
  refine AW.region ?_
  refine AOps.cons (op_move (A := rd (ksl kGroup) s1) rfl rfl (vt rfl)) rfl ?_
  refine AOps.cons (op_move (A := fn1 Try.prog kGroup kbool f2) rfl rfl (vt rfl)) rfl ?_
  refine AOps.cons (op_call (xs := [.tmp 5, .tmp 6]) (c69 _ _ _ hx3) (Ent.mk Try.func69 rfl rfl) rfl rfl ⟨vt rfl, vt rfl, trivial⟩) rfl ?_
  refine AOps.cons (op_geq rfl rfl (vt rfl) (vk rfl)) rfl ?_
  refine AOps.cons (op_assign (A := rd kbool (decide (x3 ≥ 0))) rfl rfl (vt rfl)) rfl ?_
  refine AOps.nil ?_
  refine AW.ret ?_
  obtain rfl := Option.some.inj h
  exact ret1 Try.results20 rfl (out_tmp rfl)
-- weirbox/weirboxplain.Groups
def F12 (l1 : (List Group)) (many2 : Int) (buckets3 : Int) : Option Bool :=
  (opt (decide ((l1.length : Int) ≤ many2)) (F20 l1 (fun x => F61 x buckets3))).bind fun x5 => some ((decide ((l1.length : Int) ≤ many2)) && (!x5))
theorem c12 (l1 : (List Group)) (many2 : Int) (buckets3 : Int) (r : Bool) (h : F12 l1 many2 buckets3 = some r) : PCon Try.prog 12 [rd (ksl kGroup) l1, rd (kint .i64) many2, rd (kint .i64) buckets3] (rd kbool r) := by
  refine PCon.of (Con.intro0 Try.func12 rfl Try.ntmps12 rfl fun w H => ?_)
  unfold F12 at h
  refine AW.seq ?_
  refine AW.region ?_
  refine AOps.consT rfl (op_box 6 rfl rfl (vt rfl)) ?_
  rintro _ ⟨g4, rfl⟩
  refine AOps.cons (op_assign (A := rd kbool false) rfl rfl vb) rfl ?_
  refine AOps.nil ?_
  refine AW.seq ?_
  refine AW.freezeB 5 6 rfl rfl rfl ?_
  obtain ⟨x5, hx5, h⟩ := bsome h
  refine AW.region ?_
  refine AOps.cons (op_move (A := rd (ksl kGroup) l1) rfl rfl (vt rfl)) rfl ?_
  refine AOps.cons (op_len' rfl rfl sl22 (vt rfl)) rfl ?_
  refine AOps.cons (op_move (A := rd (kint .i64) many2) rfl rfl (vt rfl)) rfl ?_
  refine AOps.cons (op_leq rfl rfl (vt rfl) (vt rfl)) rfl ?_
  refine AOps.cons (op_move (A := rd kbool (decide ((l1.length : Int) ≤ many2))) rfl rfl (vt rfl)) rfl ?_
  refine AOps.consG (OpG.guard rfl rfl rfl rfl rfl fun hq => op_move (A := rd (ksl kGroup) l1) rfl rfl (vt rfl)) ?_
  refine AOps.consG (OpG.guard rfl rfl rfl rfl rfl fun hq => op_fn1 (cs := [.tmp 5]) (CAs := [rp (kint .i64) buckets3]) (fun x => F61 x buckets3) rfl rfl (Ent.mk Try.func61 rfl rfl) ⟨vt rfl, trivial⟩ (fun x y h => c61 _ _ y h)) ?_
  refine AOps.consG (OpG.guard rfl rfl rfl rfl rfl fun hq => op_call (xs := [.tmp 12, .tmp 13]) (c20 _ _ _ (opt_t hx5 hq)) (Ent.mk Try.func20 rfl rfl) rfl rfl ⟨vgt rfl hq, vgt rfl hq, trivial⟩) ?_
  refine AOps.consG (OpG.guard rfl rfl rfl rfl rfl fun hq => op_not rfl rfl (vgt rfl hq)) ?_
  refine AOps.cons (op_all rfl rfl (vt rfl) (vt rfl)) rfl ?_
  refine AOps.cons (op_assign (A := rd kbool ((decide ((l1.length : Int) ≤ many2)) && (!x5))) rfl rfl (vt rfl)) rfl ?_
  refine AOps.nil ?_
  refine AW.ret ?_
  obtain rfl := Option.some.inj h
  exact ret1 Try.results12 rfl (out_tmp rfl)
end Go.Proofs.Ytokmmcflinnfiaa.W
