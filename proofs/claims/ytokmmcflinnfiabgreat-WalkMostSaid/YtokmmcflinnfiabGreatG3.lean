/- A part of the proof. -/
import Derived.Test.YtokmmcflinnfiabGreatG2
set_option linter.unusedVariables false
set_option maxRecDepth 4000
set_option linter.unusedSimpArgs false
namespace Go.Proofs.YtokmmcflinnfiabGreat.W
open Go Go.Wb
def F_pl_Flow (f1 : Flow) : Option Bool :=
  (opt (decide ((f1.Match.length : Int) ≤ 30)) (F_pl_Insts f1.Insts)).bind fun x3 => some ((decide ((f1.Match.length : Int) ≤ 30)) && x3)
theorem c_pl_Flow (f1 : Flow) (r : Bool) (h : F_pl_Flow f1 = some r) : PCon Tryz.prog 19 [rd kFlow f1] (rd kbool r) := by
  refine PCon.of (Con.intro0 Tryz.func19 rfl Tryz.ntmps19 rfl fun w H => ?_)
  unfold F_pl_Flow at h
  refine AW.seq ?_
  refine AW.region ?_
  refine AOps.consT rfl (op_box 2 rfl rfl (vt rfl)) ?_
  rintro _ ⟨g2, rfl⟩
  refine AOps.cons (op_assign (A := rd kbool false) rfl rfl vb) rfl ?_
  refine AOps.nil ?_
  refine AW.seq ?_
  obtain ⟨x3, hx3, h⟩ := bsome h
  refine AW.region ?_
  refine AOps.cons (op_field lFlow_5 rfl rfl fl54_5 (vt rfl)) rfl ?_
  refine AOps.cons (op_load rfl rfl ty46 (vt rfl) (i := 2) rfl) rfl ?_
  refine AOps.cons (op_len' rfl rfl sl46 (vt rfl)) rfl ?_
  refine AOps.cons (op_leq rfl rfl (vt rfl) (vk rfl)) rfl ?_
  refine AOps.cons (op_move (A := rd kbool (decide ((f1.Match.length : Int) ≤ 30))) rfl rfl (vt rfl)) rfl ?_
  refine AOps.consG (OpG.guard rfl rfl rfl rfl rfl fun hq => op_field lFlow_6 rfl rfl fl54_6 (vt rfl)) ?_
  refine AOps.consG (OpG.guard rfl rfl rfl rfl rfl fun hq => op_load rfl rfl ty52 (vgt rfl hq) (i := 2) rfl) ?_
  refine AOps.consG (OpG.guard rfl rfl rfl rfl rfl fun hq => op_call (xs := [.tmp 9]) (c_pl_Insts _ _ (opt_t hx3 hq)) (Ent.mk Tryz.func29 rfl rfl) rfl rfl ⟨vgt rfl hq, trivial⟩) ?_
  refine AOps.cons (op_all rfl rfl (vt rfl) (vt rfl)) rfl ?_
  refine AOps.cons (op_assign (A := rd kbool ((decide ((f1.Match.length : Int) ≤ 30)) && x3)) rfl rfl (vt rfl)) rfl ?_
  refine AOps.nil ?_
  refine AW.ret ?_
  obtain rfl := Option.some.inj h
  exact ret1 Tryz.results19 rfl (out_tmp rfl)
def F_pl_Flows_1 (f1 : Flow) : Option Bool :=
  (F_pl_Flow f1).bind fun x3 => some (!x3)
theorem c_pl_Flows_1 (f1 : Flow) (r : Bool) (h : F_pl_Flows_1 f1 = some r) : PCon Tryz.prog 18 [rd kFlow f1] (rd kbool r) := by
  refine PCon.of (Con.intro0 Tryz.func18 rfl Tryz.ntmps18 rfl fun w H => ?_)
  unfold F_pl_Flows_1 at h
  refine AW.seq ?_
  refine AW.region ?_
  refine AOps.consT rfl (op_box 2 rfl rfl (vt rfl)) ?_
  rintro _ ⟨g2, rfl⟩
  refine AOps.cons (op_assign (A := rd kbool false) rfl rfl vb) rfl ?_
  refine AOps.nil ?_
  refine AW.seq ?_
  obtain ⟨x3, hx3, h⟩ := bsome h
  refine AW.region ?_
  refine AOps.cons (op_load rfl rfl ty54 (vt rfl) (i := 2) rfl) rfl ?_
  refine AOps.cons (op_call (xs := [.tmp 3]) (c_pl_Flow _ _ hx3) (Ent.mk Tryz.func19 rfl rfl) rfl rfl ⟨vt rfl, trivial⟩) rfl ?_
  refine AOps.cons (op_not rfl rfl (vt rfl)) rfl ?_
  refine AOps.cons (op_assign (A := rd kbool (!x3)) rfl rfl (vt rfl)) rfl ?_
  refine AOps.nil ?_
  refine AW.ret ?_
  obtain rfl := Option.some.inj h
  exact ret1 Tryz.results18 rfl (out_tmp rfl)
def F_pl_Flows (l1 : (List Flow)) (many2 : Int) : Option Bool :=
  (opt (decide ((l1.length : Int) ≤ many2)) (F_slices_ContainsFunc_Flow l1 F_pl_Flows_1)).bind fun x3 => some ((decide ((l1.length : Int) ≤ many2)) && (!x3))
theorem c_pl_Flows (l1 : (List Flow)) (many2 : Int) (r : Bool) (h : F_pl_Flows l1 many2 = some r) : PCon Tryz.prog 11 [rd (ksl kFlow) l1, rd (kint .i64) many2] (rd kbool r) := by
  refine PCon.of (Con.intro0 Tryz.func11 rfl Tryz.ntmps11 rfl fun w H => ?_)
  unfold F_pl_Flows at h
  refine AW.seq ?_
  refine AW.region ?_
  refine AOps.cons (op_assign (A := rd kbool false) rfl rfl vb) rfl ?_
  refine AOps.nil ?_
  refine AW.seq ?_
  obtain ⟨x3, hx3, h⟩ := bsome h
  refine AW.region ?_
  refine AOps.cons (op_move (A := rd (ksl kFlow) l1) rfl rfl (vt rfl)) rfl ?_
  refine AOps.cons (op_len' rfl rfl sl22 (vt rfl)) rfl ?_
  refine AOps.cons (op_move (A := rd (kint .i64) many2) rfl rfl (vt rfl)) rfl ?_
  refine AOps.cons (op_leq rfl rfl (vt rfl) (vt rfl)) rfl ?_
  refine AOps.cons (op_move (A := rd kbool (decide ((l1.length : Int) ≤ many2))) rfl rfl (vt rfl)) rfl ?_
  refine AOps.consG (OpG.guard rfl rfl rfl rfl rfl fun hq => op_move (A := rd (ksl kFlow) l1) rfl rfl (vt rfl)) ?_
  refine AOps.consG (OpG.guard rfl rfl rfl rfl rfl fun hq => op_call (xs := [.tmp 10, .func 18]) (c_slices_ContainsFunc_Flow _ _ _ (opt_t hx3 hq)) (Ent.mk Tryz.func17 rfl rfl) rfl rfl ⟨vgt rfl hq, vf1 (Ent.mk Tryz.func18 rfl rfl) c_pl_Flows_1, trivial⟩) ?_
  refine AOps.consG (OpG.guard rfl rfl rfl rfl rfl fun hq => op_not rfl rfl (vgt rfl hq)) ?_
  refine AOps.cons (op_all rfl rfl (vt rfl) (vt rfl)) rfl ?_
  refine AOps.cons (op_assign (A := rd kbool ((decide ((l1.length : Int) ≤ many2)) && (!x3))) rfl rfl (vt rfl)) rfl ?_
  refine AOps.nil ?_
  refine AW.ret ?_
  obtain rfl := Option.some.inj h
  exact ret1 Tryz.results11 rfl (out_tmp rfl)
def F_slices_IndexFunc_Bucket_l1 (s1 : (List Bucket)) (f2 : (Bucket → Option Bool)) : Nat → Nat → Option Int
  | 0, i3 => some (-1)
  | m4 + 1, i3 => (lget s1 (i3 : Int)).bind fun e5 => (f2 e5).bind fun x6 => (bif x6 then some (i3 : Int) else (F_slices_IndexFunc_Bucket_l1 s1 f2 m4) (i3 + 1))
def F_slices_IndexFunc_Bucket (s1 : (List Bucket)) (f2 : (Bucket → Option Bool)) : Option Int :=
  F_slices_IndexFunc_Bucket_l1 s1 f2 ((s1.length : Int) : Int).toNat 0
theorem c_slices_IndexFunc_Bucket (s1 : (List Bucket)) (f2 : (Bucket → Option Bool)) (r : Int) (h : F_slices_IndexFunc_Bucket s1 f2 = some r) : PCon Tryz.prog 47 [rd (ksl kBucket) s1, fn1 Tryz.prog kBucket kbool f2] (rd (kint .i64) r) := by
  refine PCon.of (Con.intro0 Tryz.func47 rfl Tryz.ntmps47 rfl fun w H => ?_)
  unfold F_slices_IndexFunc_Bucket at h
  refine AW.seq ?_
  refine AW.region ?_
  refine AOps.cons (op_assign (A := rd (kint .i64) 0) rfl rfl (vk rfl)) rfl ?_
  refine AOps.nil ?_
  refine AW.seq ?_
  refine AW.seq ?_
  refine AW.region ?_
  refine AOps.cons (op_move (A := rd (ksl kBucket) s1) rfl rfl (vt rfl)) rfl ?_
  refine AOps.cons (op_len' rfl rfl sl75 (vt rfl)) rfl ?_
  refine AOps.cons (op_move (A := rd (kint .i64) 0) rfl rfl (vk rfl)) rfl ?_
  refine AOps.nil ?_
  refine AW.block ?_
  refine AW.loopG (d := []) (ν := Nat × Nat) (fun n => Cnt (s1.length : Int) n.2 n.1 ∧ F_slices_IndexFunc_Bucket_l1 s1 f2 n.1 n.2 = some r) (fun n => n.1) (fun n => [(0, rd (ksl kBucket) s1), (1, fn1 Tryz.prog kBucket kbool f2), (7, rd (kint .i64) (s1.length : Int)), (8, rd (kint .i64) (n.2 : Int))]) (fun n => []) (((s1.length : Int) : Int).toNat, 0) ⟨Cnt.start _, h⟩ ⟨rfl, ⟨rfl, rfl, rfl, rfl, trivial⟩, trivial⟩ ?_
  rintro ⟨m4, i3⟩ ⟨hsf1, h⟩
  change Cnt (s1.length : Int) i3 m4 at hsf1
  change F_slices_IndexFunc_Bucket_l1 s1 f2 m4 i3 = some r at h
  change AW _ _ _ ⟨slots [(0, rd (ksl kBucket) s1), (1, fn1 Tryz.prog kBucket kbool f2), (7, rd (kint .i64) (s1.length : Int)), (8, rd (kint .i64) (i3 : Int))], ress [], _⟩
  cases m4 with
  | zero =>
    unfold F_slices_IndexFunc_Bucket_l1 at h
    refine AW.seq ?_
    refine AW.region ?_
    refine AOps.cons (op_lss rfl rfl (vt rfl) (vt rfl)) rfl ?_
    refine AOps.nil ?_
    refine AW.seq ?_
    refine AW.cond (vt rfl) (fun hc => absurd (of_decide_eq_true hc) hsf1.zero) (fun hc => ?_)
    refine AW.exit ?_
    refine AW.seq ?_
    refine AW.region ?_
    refine AOps.cons (op_assign (A := rd (kint .i64) (-1)) rfl rfl (vk rfl)) rfl ?_
    refine AOps.nil ?_
    refine AW.ret ?_
    obtain rfl := Option.some.inj h
    exact ret1 Tryz.results47 rfl (out_tmp rfl)
  | succ m4 =>
    unfold F_slices_IndexFunc_Bucket_l1 at h
    generalize hgo1 : F_slices_IndexFunc_Bucket_l1 s1 f2 m4 = go1 at h
    refine AW.seq ?_
    refine AW.region ?_
    refine AOps.cons (op_lss rfl rfl (vt rfl) (vt rfl)) rfl ?_
    refine AOps.nil ?_
    refine AW.seq ?_
    refine AW.cond (vt rfl) (fun hc => ?_) (fun hc => absurd hsf1.succ (of_decide_eq_false hc))
    have hlti3 := of_decide_eq_true hc
    refine AW.skip ?_
    refine AW.seq ?_
    refine AW.block ?_
    refine AW.seq ?_
    refine AW.region ?_
    refine AOps.cons (op_move (A := rd (kint .i64) (i3 : Int)) rfl rfl (vt rfl)) rfl ?_
    refine AOps.cons (op_assign (A := rd (kint .i64) (i3 : Int)) rfl rfl (vt rfl)) rfl ?_
    refine AOps.nil ?_
    refine AW.seq ?_
    obtain ⟨e5, he5, h⟩ := bsome h
    obtain ⟨x6, hx6, h⟩ := bsome h
    refine AW.region ?_
    refine AOps.cons (op_move (A := fn1 Tryz.prog kBucket kbool f2) rfl rfl (vt rfl)) rfl ?_
    refine AOps.cons (op_move (A := rd (ksl kBucket) s1) rfl rfl (vt rfl)) rfl ?_
    refine AOps.cons (op_move (A := rd (kint .i64) (i3 : Int)) rfl rfl (vt rfl)) rfl ?_
    refine AOps.cons (op_indexs' rfl rfl sl75 (vt rfl) (vt rfl) he5) rfl ?_
    refine AOps.cons (op_loadp rfl rfl ty93 (vt rfl)) rfl ?_
    refine AOps.cons (op_call1 hx6 rfl rfl (vt rfl) (vt rfl)) rfl ?_
    refine AOps.nil ?_
    refine AW.cond (vt rfl) (fun hc => ?_) (fun hc => ?_)
    · have h := cond_t hc h
      refine AW.seq ?_
      refine AW.region ?_
      refine AOps.cons (op_move (A := rd (kint .i64) (i3 : Int)) rfl rfl (vt rfl)) rfl ?_
      refine AOps.cons (op_assign (A := rd (kint .i64) (i3 : Int)) rfl rfl (vt rfl)) rfl ?_
      refine AOps.nil ?_
      refine AW.ret ?_
      obtain rfl := Option.some.inj h
      exact ret1 Tryz.results47 rfl (out_tmp rfl)
    · have h := cond_f hc h
      refine AW.skip ?_
      refine AW.region ?_
      refine AOps.cons (op_incr (t := 7) rfl rfl (vt rfl) (vk rfl) (vt rfl) hlti3) rfl ?_
      refine AOps.cons (op_move (A := rd (kint .i64) ((i3 + 1 : Nat) : Int)) rfl rfl (vt rfl)) rfl ?_
      refine AOps.nil ?_
      subst hgo1
      exact ⟨(m4, i3 + 1), Nat.lt_succ_self _, ⟨hsf1.next, h⟩, ⟨rfl, ⟨rfl, rfl, rfl, rfl, trivial⟩, trivial⟩⟩
def F_slices_ContainsFunc_Bucket (s1 : (List Bucket)) (f2 : (Bucket → Option Bool)) : Option Bool :=
  (F_slices_IndexFunc_Bucket s1 f2).bind fun x3 => some (decide (x3 ≥ 0))
theorem c_slices_ContainsFunc_Bucket (s1 : (List Bucket)) (f2 : (Bucket → Option Bool)) (r : Bool) (h : F_slices_ContainsFunc_Bucket s1 f2 = some r) : PCon Tryz.prog 31 [rd (ksl kBucket) s1, fn1 Tryz.prog kBucket kbool f2] (rd kbool r) := by
  refine PCon.of (Con.intro0 Tryz.func31 rfl Tryz.ntmps31 rfl fun w H => ?_)
  unfold F_slices_ContainsFunc_Bucket at h
  refine AW.seq ?_
  refine AW.region ?_
  refine AOps.cons (op_assign (A := rd kbool false) rfl rfl vb) rfl ?_
  refine AOps.nil ?_
  refine AW.seq ?_
  obtain ⟨x3, hx3, h⟩ := bsome h
  refine AW.region ?_
  refine AOps.cons (op_move (A := rd (ksl kBucket) s1) rfl rfl (vt rfl)) rfl ?_
  refine AOps.cons (op_move (A := fn1 Tryz.prog kBucket kbool f2) rfl rfl (vt rfl)) rfl ?_
  refine AOps.cons (op_call (xs := [.tmp 5, .tmp 6]) (c_slices_IndexFunc_Bucket _ _ _ hx3) (Ent.mk Tryz.func47 rfl rfl) rfl rfl ⟨vt rfl, vt rfl, trivial⟩) rfl ?_
  refine AOps.cons (op_geq rfl rfl (vt rfl) (vk rfl)) rfl ?_
  refine AOps.cons (op_assign (A := rd kbool (decide (x3 ≥ 0))) rfl rfl (vt rfl)) rfl ?_
  refine AOps.nil ?_
  refine AW.ret ?_
  obtain rfl := Option.some.inj h
  exact ret1 Tryz.results31 rfl (out_tmp rfl)
def F_pl_Buckets_1 (x1 : Bucket) : Option Bool :=
  (F_pl_Acts x1.Acts).bind fun x3 => some (!x3)
theorem c_pl_Buckets_1 (x1 : Bucket) (r : Bool) (h : F_pl_Buckets_1 x1 = some r) : PCon Tryz.prog 32 [rd kBucket x1] (rd kbool r) := by
  refine PCon.of (Con.intro0 Tryz.func32 rfl Tryz.ntmps32 rfl fun w H => ?_)
  unfold F_pl_Buckets_1 at h
  refine AW.seq ?_
  refine AW.region ?_
  refine AOps.consT rfl (op_box 2 rfl rfl (vt rfl)) ?_
  rintro _ ⟨g2, rfl⟩
  refine AOps.cons (op_assign (A := rd kbool false) rfl rfl vb) rfl ?_
  refine AOps.nil ?_
  refine AW.seq ?_
  obtain ⟨x3, hx3, h⟩ := bsome h
  refine AW.region ?_
  refine AOps.cons (op_field lBucket_3 rfl rfl fl93_3 (vt rfl)) rfl ?_
  refine AOps.cons (op_load rfl rfl ty49 (vt rfl) (i := 2) rfl) rfl ?_
  refine AOps.cons (op_call (xs := [.tmp 4]) (c_pl_Acts _ _ hx3) (Ent.mk Tryz.func33 rfl rfl) rfl rfl ⟨vt rfl, trivial⟩) rfl ?_
  refine AOps.cons (op_not rfl rfl (vt rfl)) rfl ?_
  refine AOps.cons (op_assign (A := rd kbool (!x3)) rfl rfl (vt rfl)) rfl ?_
  refine AOps.nil ?_
  refine AW.ret ?_
  obtain rfl := Option.some.inj h
  exact ret1 Tryz.results32 rfl (out_tmp rfl)
def F_pl_Buckets (l1 : (List Bucket)) (many2 : Int) : Option Bool :=
  (opt (decide ((l1.length : Int) ≤ many2)) (F_slices_ContainsFunc_Bucket l1 F_pl_Buckets_1)).bind fun x3 => some ((decide ((l1.length : Int) ≤ many2)) && (!x3))
theorem c_pl_Buckets (l1 : (List Bucket)) (many2 : Int) (r : Bool) (h : F_pl_Buckets l1 many2 = some r) : PCon Tryz.prog 22 [rd (ksl kBucket) l1, rd (kint .i64) many2] (rd kbool r) := by
  refine PCon.of (Con.intro0 Tryz.func22 rfl Tryz.ntmps22 rfl fun w H => ?_)
  unfold F_pl_Buckets at h
  refine AW.seq ?_
  refine AW.region ?_
  refine AOps.cons (op_assign (A := rd kbool false) rfl rfl vb) rfl ?_
  refine AOps.nil ?_
  refine AW.seq ?_
  obtain ⟨x3, hx3, h⟩ := bsome h
  refine AW.region ?_
  refine AOps.cons (op_move (A := rd (ksl kBucket) l1) rfl rfl (vt rfl)) rfl ?_
  refine AOps.cons (op_len' rfl rfl sl75 (vt rfl)) rfl ?_
  refine AOps.cons (op_move (A := rd (kint .i64) many2) rfl rfl (vt rfl)) rfl ?_
  refine AOps.cons (op_leq rfl rfl (vt rfl) (vt rfl)) rfl ?_
  refine AOps.cons (op_move (A := rd kbool (decide ((l1.length : Int) ≤ many2))) rfl rfl (vt rfl)) rfl ?_
  refine AOps.consG (OpG.guard rfl rfl rfl rfl rfl fun hq => op_move (A := rd (ksl kBucket) l1) rfl rfl (vt rfl)) ?_
  refine AOps.consG (OpG.guard rfl rfl rfl rfl rfl fun hq => op_call (xs := [.tmp 10, .func 32]) (c_slices_ContainsFunc_Bucket _ _ _ (opt_t hx3 hq)) (Ent.mk Tryz.func31 rfl rfl) rfl rfl ⟨vgt rfl hq, vf1 (Ent.mk Tryz.func32 rfl rfl) c_pl_Buckets_1, trivial⟩) ?_
  refine AOps.consG (OpG.guard rfl rfl rfl rfl rfl fun hq => op_not rfl rfl (vgt rfl hq)) ?_
  refine AOps.cons (op_all rfl rfl (vt rfl) (vt rfl)) rfl ?_
  refine AOps.cons (op_assign (A := rd kbool ((decide ((l1.length : Int) ≤ many2)) && (!x3))) rfl rfl (vt rfl)) rfl ?_
  refine AOps.nil ?_
  refine AW.ret ?_
  obtain rfl := Option.some.inj h
  exact ret1 Tryz.results22 rfl (out_tmp rfl)
def F_pl_Groups_1 (g1 : Group) (cp2 : Int) : Option Bool :=
  (F_pl_Buckets g1.Buckets cp2).bind fun x4 => some (!x4)
theorem c_pl_Groups_1 (g1 : Group) (cp2 : Int) (r : Bool) (h : F_pl_Groups_1 g1 cp2 = some r) : PCon Tryz.prog 21 [rd kGroup g1, rp (kint .i64) cp2] (rd kbool r) := by
  refine PCon.of (Con.intro0 Tryz.func21 rfl Tryz.ntmps21 rfl fun w H => ?_)
  unfold F_pl_Groups_1 at h
  refine AW.seq ?_
  refine AW.region ?_
  refine AOps.consT rfl (op_box 3 rfl rfl (vt rfl)) ?_
  rintro _ ⟨g3, rfl⟩
  refine AOps.cons (op_assign (A := rd kbool false) rfl rfl vb) rfl ?_
  refine AOps.nil ?_
  refine AW.seq ?_
  obtain ⟨x4, hx4, h⟩ := bsome h
  refine AW.region ?_
  refine AOps.cons (op_field lGroup_2 rfl rfl fl77_2 (vt rfl)) rfl ?_
  refine AOps.cons (op_load rfl rfl ty75 (vt rfl) (i := 3) rfl) rfl ?_
  refine AOps.cons (op_loadp rfl rfl ty3 (vt rfl)) rfl ?_
  refine AOps.cons (op_call (xs := [.tmp 5, .tmp 6]) (c_pl_Buckets _ _ _ hx4) (Ent.mk Tryz.func22 rfl rfl) rfl rfl ⟨vt rfl, vt rfl, trivial⟩) rfl ?_
  refine AOps.cons (op_not rfl rfl (vt rfl)) rfl ?_
  refine AOps.cons (op_assign (A := rd kbool (!x4)) rfl rfl (vt rfl)) rfl ?_
  refine AOps.nil ?_
  refine AW.ret ?_
  obtain rfl := Option.some.inj h
  exact ret1 Tryz.results21 rfl (out_tmp rfl)
def F_slices_IndexFunc_Group_l1 (s1 : (List Group)) (f2 : (Group → Option Bool)) : Nat → Nat → Option Int
  | 0, i3 => some (-1)
  | m4 + 1, i3 => (lget s1 (i3 : Int)).bind fun e5 => (f2 e5).bind fun x6 => (bif x6 then some (i3 : Int) else (F_slices_IndexFunc_Group_l1 s1 f2 m4) (i3 + 1))
def F_slices_IndexFunc_Group (s1 : (List Group)) (f2 : (Group → Option Bool)) : Option Int :=
  F_slices_IndexFunc_Group_l1 s1 f2 ((s1.length : Int) : Int).toNat 0
theorem c_slices_IndexFunc_Group (s1 : (List Group)) (f2 : (Group → Option Bool)) (r : Int) (h : F_slices_IndexFunc_Group s1 f2 = some r) : PCon Tryz.prog 30 [rd (ksl kGroup) s1, fn1 Tryz.prog kGroup kbool f2] (rd (kint .i64) r) := by
  refine PCon.of (Con.intro0 Tryz.func30 rfl Tryz.ntmps30 rfl fun w H => ?_)
  unfold F_slices_IndexFunc_Group at h
  refine AW.seq ?_
  refine AW.region ?_
  refine AOps.cons (op_assign (A := rd (kint .i64) 0) rfl rfl (vk rfl)) rfl ?_
  refine AOps.nil ?_
  refine AW.seq ?_
  refine AW.seq ?_
  refine AW.region ?_
  refine AOps.cons (op_move (A := rd (ksl kGroup) s1) rfl rfl (vt rfl)) rfl ?_
  refine AOps.cons (op_len' rfl rfl sl24 (vt rfl)) rfl ?_
  refine AOps.cons (op_move (A := rd (kint .i64) 0) rfl rfl (vk rfl)) rfl ?_
  refine AOps.nil ?_
  refine AW.block ?_
  refine AW.loopG (d := []) (ν := Nat × Nat) (fun n => Cnt (s1.length : Int) n.2 n.1 ∧ F_slices_IndexFunc_Group_l1 s1 f2 n.1 n.2 = some r) (fun n => n.1) (fun n => [(0, rd (ksl kGroup) s1), (1, fn1 Tryz.prog kGroup kbool f2), (7, rd (kint .i64) (s1.length : Int)), (8, rd (kint .i64) (n.2 : Int))]) (fun n => []) (((s1.length : Int) : Int).toNat, 0) ⟨Cnt.start _, h⟩ ⟨rfl, ⟨rfl, rfl, rfl, rfl, trivial⟩, trivial⟩ ?_
  rintro ⟨m4, i3⟩ ⟨hsf1, h⟩
  change Cnt (s1.length : Int) i3 m4 at hsf1
  change F_slices_IndexFunc_Group_l1 s1 f2 m4 i3 = some r at h
  change AW _ _ _ ⟨slots [(0, rd (ksl kGroup) s1), (1, fn1 Tryz.prog kGroup kbool f2), (7, rd (kint .i64) (s1.length : Int)), (8, rd (kint .i64) (i3 : Int))], ress [], _⟩
  cases m4 with
  | zero =>
    unfold F_slices_IndexFunc_Group_l1 at h
    refine AW.seq ?_
    refine AW.region ?_
    refine AOps.cons (op_lss rfl rfl (vt rfl) (vt rfl)) rfl ?_
    refine AOps.nil ?_
    refine AW.seq ?_
    refine AW.cond (vt rfl) (fun hc => absurd (of_decide_eq_true hc) hsf1.zero) (fun hc => ?_)
    refine AW.exit ?_
    refine AW.seq ?_
    refine AW.region ?_
    refine AOps.cons (op_assign (A := rd (kint .i64) (-1)) rfl rfl (vk rfl)) rfl ?_
    refine AOps.nil ?_
    refine AW.ret ?_
    obtain rfl := Option.some.inj h
    exact ret1 Tryz.results30 rfl (out_tmp rfl)
  | succ m4 =>
    unfold F_slices_IndexFunc_Group_l1 at h
    generalize hgo1 : F_slices_IndexFunc_Group_l1 s1 f2 m4 = go1 at h
    refine AW.seq ?_
    refine AW.region ?_
    refine AOps.cons (op_lss rfl rfl (vt rfl) (vt rfl)) rfl ?_
    refine AOps.nil ?_
    refine AW.seq ?_
    refine AW.cond (vt rfl) (fun hc => ?_) (fun hc => absurd hsf1.succ (of_decide_eq_false hc))
    have hlti3 := of_decide_eq_true hc
    refine AW.skip ?_
    refine AW.seq ?_
    refine AW.block ?_
    refine AW.seq ?_
    refine AW.region ?_
    refine AOps.cons (op_move (A := rd (kint .i64) (i3 : Int)) rfl rfl (vt rfl)) rfl ?_
    refine AOps.cons (op_assign (A := rd (kint .i64) (i3 : Int)) rfl rfl (vt rfl)) rfl ?_
    refine AOps.nil ?_
    refine AW.seq ?_
    obtain ⟨e5, he5, h⟩ := bsome h
    obtain ⟨x6, hx6, h⟩ := bsome h
    refine AW.region ?_
    refine AOps.cons (op_move (A := fn1 Tryz.prog kGroup kbool f2) rfl rfl (vt rfl)) rfl ?_
    refine AOps.cons (op_move (A := rd (ksl kGroup) s1) rfl rfl (vt rfl)) rfl ?_
    refine AOps.cons (op_move (A := rd (kint .i64) (i3 : Int)) rfl rfl (vt rfl)) rfl ?_
    refine AOps.cons (op_indexs' rfl rfl sl24 (vt rfl) (vt rfl) he5) rfl ?_
    refine AOps.cons (op_loadp rfl rfl ty77 (vt rfl)) rfl ?_
    refine AOps.cons (op_call1 hx6 rfl rfl (vt rfl) (vt rfl)) rfl ?_
    refine AOps.nil ?_
    refine AW.cond (vt rfl) (fun hc => ?_) (fun hc => ?_)
    · have h := cond_t hc h
      refine AW.seq ?_
      refine AW.region ?_
      refine AOps.cons (op_move (A := rd (kint .i64) (i3 : Int)) rfl rfl (vt rfl)) rfl ?_
      refine AOps.cons (op_assign (A := rd (kint .i64) (i3 : Int)) rfl rfl (vt rfl)) rfl ?_
      refine AOps.nil ?_
      refine AW.ret ?_
      obtain rfl := Option.some.inj h
      exact ret1 Tryz.results30 rfl (out_tmp rfl)
    · have h := cond_f hc h
      refine AW.skip ?_
      refine AW.region ?_
      refine AOps.cons (op_incr (t := 7) rfl rfl (vt rfl) (vk rfl) (vt rfl) hlti3) rfl ?_
      refine AOps.cons (op_move (A := rd (kint .i64) ((i3 + 1 : Nat) : Int)) rfl rfl (vt rfl)) rfl ?_
      refine AOps.nil ?_
      subst hgo1
      exact ⟨(m4, i3 + 1), Nat.lt_succ_self _, ⟨hsf1.next, h⟩, ⟨rfl, ⟨rfl, rfl, rfl, rfl, trivial⟩, trivial⟩⟩
end Go.Proofs.YtokmmcflinnfiabGreat.W
set_option linter.unusedVariables false
set_option maxRecDepth 4000
set_option linter.unusedSimpArgs false
namespace Go.Proofs.YtokmmcflinnfiabGreat.W
open Go Go.Wb
def F_slices_ContainsFunc_Group (s1 : (List Group)) (f2 : (Group → Option Bool)) : Option Bool :=
  (F_slices_IndexFunc_Group s1 f2).bind fun x3 => some (decide (x3 ≥ 0))
theorem c_slices_ContainsFunc_Group (s1 : (List Group)) (f2 : (Group → Option Bool)) (r : Bool) (h : F_slices_ContainsFunc_Group s1 f2 = some r) : PCon Tryz.prog 20 [rd (ksl kGroup) s1, fn1 Tryz.prog kGroup kbool f2] (rd kbool r) := by
  refine PCon.of (Con.intro0 Tryz.func20 rfl Tryz.ntmps20 rfl fun w H => ?_)
  unfold F_slices_ContainsFunc_Group at h
  refine AW.seq ?_
  refine AW.region ?_
  refine AOps.cons (op_assign (A := rd kbool false) rfl rfl vb) rfl ?_
  refine AOps.nil ?_
  refine AW.seq ?_
  obtain ⟨x3, hx3, h⟩ := bsome h
  refine AW.region ?_
  refine AOps.cons (op_move (A := rd (ksl kGroup) s1) rfl rfl (vt rfl)) rfl ?_
  refine AOps.cons (op_move (A := fn1 Tryz.prog kGroup kbool f2) rfl rfl (vt rfl)) rfl ?_
  refine AOps.cons (op_call (xs := [.tmp 5, .tmp 6]) (c_slices_IndexFunc_Group _ _ _ hx3) (Ent.mk Tryz.func30 rfl rfl) rfl rfl ⟨vt rfl, vt rfl, trivial⟩) rfl ?_
  refine AOps.cons (op_geq rfl rfl (vt rfl) (vk rfl)) rfl ?_
  refine AOps.cons (op_assign (A := rd kbool (decide (x3 ≥ 0))) rfl rfl (vt rfl)) rfl ?_
  refine AOps.nil ?_
  refine AW.ret ?_
  obtain rfl := Option.some.inj h
  exact ret1 Tryz.results20 rfl (out_tmp rfl)
def F_pl_Groups (l1 : (List Group)) (many2 : Int) (buckets3 : Int) : Option Bool :=
  (opt (decide ((l1.length : Int) ≤ many2)) (F_slices_ContainsFunc_Group l1 (fun x => F_pl_Groups_1 x buckets3))).bind fun x5 => some ((decide ((l1.length : Int) ≤ many2)) && (!x5))
theorem c_pl_Groups (l1 : (List Group)) (many2 : Int) (buckets3 : Int) (r : Bool) (h : F_pl_Groups l1 many2 buckets3 = some r) : PCon Tryz.prog 12 [rd (ksl kGroup) l1, rd (kint .i64) many2, rd (kint .i64) buckets3] (rd kbool r) := by
  refine PCon.of (Con.intro0 Tryz.func12 rfl Tryz.ntmps12 rfl fun w H => ?_)
  unfold F_pl_Groups at h
  refine AW.seq ?_
  refine AW.region ?_
  refine AOps.consT rfl (op_box 6 rfl rfl (vt rfl)) ?_
  rintro _ ⟨g4, rfl⟩
  refine AOps.cons (op_assign (A := rd kbool false) rfl rfl vb) rfl ?_
  refine AOps.nil ?_
  refine AW.seq ?_
  refine AW.freezeB 5 6 rfl rfl rfl ?_
  obtain ⟨x5, hx5, h⟩ := bsome h
  refine AW.region ?_
  refine AOps.cons (op_move (A := rd (ksl kGroup) l1) rfl rfl (vt rfl)) rfl ?_
  refine AOps.cons (op_len' rfl rfl sl24 (vt rfl)) rfl ?_
  refine AOps.cons (op_move (A := rd (kint .i64) many2) rfl rfl (vt rfl)) rfl ?_
  refine AOps.cons (op_leq rfl rfl (vt rfl) (vt rfl)) rfl ?_
  refine AOps.cons (op_move (A := rd kbool (decide ((l1.length : Int) ≤ many2))) rfl rfl (vt rfl)) rfl ?_
  refine AOps.consG (OpG.guard rfl rfl rfl rfl rfl fun hq => op_move (A := rd (ksl kGroup) l1) rfl rfl (vt rfl)) ?_
  refine AOps.consG (OpG.guard rfl rfl rfl rfl rfl fun hq => op_fn1 (cs := [.tmp 5]) (CAs := [rp (kint .i64) buckets3]) (fun x => F_pl_Groups_1 x buckets3) rfl rfl (Ent.mk Tryz.func21 rfl rfl) ⟨vt rfl, trivial⟩ (fun x y h => c_pl_Groups_1 _ _ y h)) ?_
  refine AOps.consG (OpG.guard rfl rfl rfl rfl rfl fun hq => op_call (xs := [.tmp 12, .tmp 13]) (c_slices_ContainsFunc_Group _ _ _ (opt_t hx5 hq)) (Ent.mk Tryz.func20 rfl rfl) rfl rfl ⟨vgt rfl hq, vgt rfl hq, trivial⟩) ?_
  refine AOps.consG (OpG.guard rfl rfl rfl rfl rfl fun hq => op_not rfl rfl (vgt rfl hq)) ?_
  refine AOps.cons (op_all rfl rfl (vt rfl) (vt rfl)) rfl ?_
  refine AOps.cons (op_assign (A := rd kbool ((decide ((l1.length : Int) ≤ many2)) && (!x5))) rfl rfl (vt rfl)) rfl ?_
  refine AOps.nil ?_
  refine AW.ret ?_
  obtain rfl := Option.some.inj h
  exact ret1 Tryz.results12 rfl (out_tmp rfl)
def F_pl_Switch_l1 (s1 : Switch) (many2 : Int) : (List (List Flow)) → Nat → Option Bool
  | [], i4 => (F_pl_Groups s1.Groups 9 3).bind fun x6 => some x6
  | x7 :: l5, i4 => (F_pl_Flows x7 many2).bind fun x8 => (bif (!x8) then some false else (F_pl_Switch_l1 s1 many2 l5) (i4 + 1))
def F_pl_Switch (s1 : Switch) (many2 : Int) : Option Bool :=
  F_pl_Switch_l1 s1 many2 (Vector.toList s1.Tables) 0
theorem c_pl_Switch (s1 : Switch) (many2 : Int) (r : Bool) (h : F_pl_Switch s1 many2 = some r) : PCon Tryz.prog 7 [rd kSwitch s1, rd (kint .i64) many2] (rd kbool r) := by
  refine PCon.of (Con.intro0 Tryz.func7 rfl Tryz.ntmps7 rfl fun w H => ?_)
  unfold F_pl_Switch at h
  refine AW.seq ?_
  refine AW.region ?_
  refine AOps.consT rfl (op_box 3 rfl rfl (vt rfl)) ?_
  rintro _ ⟨g3, rfl⟩
  refine AOps.cons (op_assign (A := rd kbool false) rfl rfl vb) rfl ?_
  refine AOps.nil ?_
  refine AW.seq ?_
  refine AW.seq ?_
  refine AW.region ?_
  refine AOps.cons (op_field lSwitch_0 rfl rfl fl26_0 (vt rfl)) rfl ?_
  refine AOps.cons (op_load rfl rfl ty23 (vt rfl) (i := 3) rfl) rfl ?_
  refine AOps.cons (op_move (A := rd (kint .i64) 0) rfl rfl (vk rfl)) rfl ?_
  refine AOps.nil ?_
  refine AW.block ?_
  refine AW.loopG (d := []) (ν := (List (List Flow)) × Nat) (fun n => Sfx (Vector.toList s1.Tables) n.2 n.1 ∧ F_pl_Switch_l1 s1 many2 n.1 n.2 = some r) (fun n => n.1.length) (fun n => [(1, rd (kint .i64) many2), (2, ptrL g3 (Lens.id kSwitch)), (8, rd (karr 4 (ksl kFlow)) s1.Tables), (9, rd (kint .i64) (n.2 : Int))]) (fun n => [(3, Blk g3 26 kSwitch s1)]) ((Vector.toList s1.Tables), 0) ⟨Sfx.start _, h⟩ ⟨rfl, ⟨rfl, rfl, rfl, rfl, trivial⟩, ⟨rfl, trivial⟩⟩ ?_
  rintro ⟨l5, i4⟩ ⟨hsf1, h⟩
  change Sfx (Vector.toList s1.Tables) i4 l5 at hsf1
  change F_pl_Switch_l1 s1 many2 l5 i4 = some r at h
  change AW _ _ _ ⟨slots [(1, rd (kint .i64) many2), (2, ptrL g3 (Lens.id kSwitch)), (8, rd (karr 4 (ksl kFlow)) s1.Tables), (9, rd (kint .i64) (i4 : Int))], ress [(3, Blk g3 26 kSwitch s1)], _⟩
  cases l5 with
  | nil =>
    unfold F_pl_Switch_l1 at h
    refine AW.seq ?_
    refine AW.region ?_
    refine AOps.cons (op_lss rfl rfl (vt rfl) (vk rfl)) rfl ?_
    refine AOps.nil ?_
    refine AW.seq ?_
    refine AW.cond (vt rfl) (fun hc => absurd (of_decide_eq_true hc) (hsf1.niln (by simp))) (fun hc => ?_)
    refine AW.exit ?_
    refine AW.seq ?_
    obtain ⟨x6, hx6, h⟩ := bsome h
    refine AW.region ?_
    refine AOps.cons (op_field lSwitch_1 rfl rfl fl26_1 (vt rfl)) rfl ?_
    refine AOps.cons (op_load rfl rfl ty24 (vt rfl) (i := 3) rfl) rfl ?_
    refine AOps.cons (op_call (xs := [.tmp 18, .const (Value.int IntKind.i64 9), .const (Value.int IntKind.i64 3)]) (c_pl_Groups _ _ _ _ hx6) (Ent.mk Tryz.func12 rfl rfl) rfl rfl ⟨vt rfl, vk rfl, vk rfl, trivial⟩) rfl ?_
    refine AOps.cons (op_assign (A := rd kbool x6) rfl rfl (vt rfl)) rfl ?_
    refine AOps.nil ?_
    refine AW.ret ?_
    obtain rfl := Option.some.inj h
    exact ret1 Tryz.results7 rfl (out_tmp rfl)
  | cons x7 l5 =>
    unfold F_pl_Switch_l1 at h
    generalize hgo1 : F_pl_Switch_l1 s1 many2 l5 = go1 at h
    refine AW.seq ?_
    refine AW.region ?_
    refine AOps.cons (op_lss rfl rfl (vt rfl) (vk rfl)) rfl ?_
    refine AOps.nil ?_
    refine AW.seq ?_
    refine AW.cond (vt rfl) (fun hc => ?_) (fun hc => absurd (hsf1.consn (by simp)) (of_decide_eq_false hc))
    have hlti4 := of_decide_eq_true hc
    refine AW.skip ?_
    refine AW.seq ?_
    refine AW.block ?_
    refine AW.seq ?_
    refine AW.region ?_
    refine AOps.cons (op_indexv rfl rfl ar23 ty22 (vt rfl) (vt rfl) hsf1.lget) rfl ?_
    refine AOps.cons (op_assign (A := rd (ksl kFlow) x7) rfl rfl (vt rfl)) rfl ?_
    refine AOps.nil ?_
    refine AW.seq ?_
    obtain ⟨x8, hx8, h⟩ := bsome h
    refine AW.region ?_
    refine AOps.cons (op_move (A := rd (ksl kFlow) x7) rfl rfl (vt rfl)) rfl ?_
    refine AOps.cons (op_move (A := rd (kint .i64) many2) rfl rfl (vt rfl)) rfl ?_
    refine AOps.cons (op_call (xs := [.tmp 12, .tmp 13]) (c_pl_Flows _ _ _ hx8) (Ent.mk Tryz.func11 rfl rfl) rfl rfl ⟨vt rfl, vt rfl, trivial⟩) rfl ?_
    refine AOps.cons (op_not rfl rfl (vt rfl)) rfl ?_
    refine AOps.nil ?_
    refine AW.cond (vt rfl) (fun hc => ?_) (fun hc => ?_)
    · have h := cond_t hc h
      refine AW.seq ?_
      refine AW.region ?_
      refine AOps.cons (op_assign (A := rd kbool false) rfl rfl vb) rfl ?_
      refine AOps.nil ?_
      refine AW.ret ?_
      obtain rfl := Option.some.inj h
      exact ret1 Tryz.results7 rfl (out_tmp rfl)
    · have h := cond_f hc h
      refine AW.skip ?_
      refine AW.region ?_
      refine AOps.cons (op_incrc rfl rfl (vt rfl) (vk rfl) rfl hlti4) rfl ?_
      refine AOps.cons (op_move (A := rd (kint .i64) ((i4 + 1 : Nat) : Int)) rfl rfl (vt rfl)) rfl ?_
      refine AOps.nil ?_
      subst hgo1
      exact ⟨(l5, i4 + 1), Nat.lt_succ_self _, ⟨hsf1.next, h⟩, ⟨rfl, ⟨rfl, rfl, rfl, rfl, trivial⟩, ⟨rfl, trivial⟩⟩⟩
def F_l33_WalkMost_l1 (s1 : Switch) : (List (List Flow)) → Nat → Option Bool
  | [], i3 => (F_walk_Most s1).bind fun x5 => (F_r33_Most s1).bind fun x6 => (bif (decide (x5 ≠ x6)) then some false else (F_pl_Switch s1 5).bind fun x7 => (bif (!x7) then (F_l33_awake).bind fun x8 => some x8 else (F_walk_List s1).bind fun x9 => (F_walk_Most s1).bind fun x10 => (opt ((decide ((x9.length : Int) ≤ x10)) && (decide ((x9.length : Int) > 0))) (lget x9 (IntKind.i64.wrap ((x9.length : Int) - 1)))).bind fun e11 => (opt ((decide ((x9.length : Int) ≤ x10)) && (decide ((x9.length : Int) > 0))) (F_cube_All)).bind fun x12 => (opt (((decide ((x9.length : Int) ≤ x10)) && (decide ((x9.length : Int) > 0))) && (decide (e11.Cube = x12))) (lget x9 (IntKind.i64.wrap ((x9.length : Int) - 1)))).bind fun e13 => (opt ((((decide ((x9.length : Int) ≤ x10)) && (decide ((x9.length : Int) > 0))) && (decide (e11.Cube = x12))) && (decide ((e13.Atoms.length : Int) = 0))) (F_l33_awake)).bind fun x14 => some (((((decide ((x9.length : Int) ≤ x10)) && (decide ((x9.length : Int) > 0))) && (decide (e11.Cube = x12))) && (decide ((e13.Atoms.length : Int) = 0))) && x14)))
  | x15 :: l4, i3 => (bif (decide ((x15.length : Int) > 65536)) then (F_l33_awake).bind fun x16 => some x16 else (F_l33_WalkMost_l1 s1 l4) (i3 + 1))
def F_l33_WalkMost (s1 : Switch) : Option Bool :=
  F_l33_WalkMost_l1 s1 (Vector.toList s1.Tables) 0
theorem c_l33_WalkMost (s1 : Switch) (r : Bool) (h : F_l33_WalkMost s1 = some r) : PCon Tryz.prog 3 [rd kSwitch s1] (rd kbool r) := by
  refine PCon.of (Con.intro0 Tryz.func3 rfl Tryz.ntmps3 rfl fun w H => ?_)
  unfold F_l33_WalkMost at h
  refine AW.seq ?_
  refine AW.region ?_
  refine AOps.consT rfl (op_box 2 rfl rfl (vt rfl)) ?_
  rintro _ ⟨g2, rfl⟩
  refine AOps.cons (op_assign (A := rd kbool false) rfl rfl vb) rfl ?_
  refine AOps.nil ?_
  refine AW.seq ?_
  refine AW.seq ?_
  refine AW.region ?_
  refine AOps.cons (op_field lSwitch_0 rfl rfl fl26_0 (vt rfl)) rfl ?_
  refine AOps.cons (op_load rfl rfl ty23 (vt rfl) (i := 2) rfl) rfl ?_
  refine AOps.cons (op_move (A := rd (kint .i64) 0) rfl rfl (vk rfl)) rfl ?_
  refine AOps.nil ?_
  refine AW.block ?_
  refine AW.loopG (d := []) (ν := (List (List Flow)) × Nat) (fun n => Sfx (Vector.toList s1.Tables) n.2 n.1 ∧ F_l33_WalkMost_l1 s1 n.1 n.2 = some r) (fun n => n.1.length) (fun n => [(1, ptrL g2 (Lens.id kSwitch)), (7, rd (karr 4 (ksl kFlow)) s1.Tables), (8, rd (kint .i64) (n.2 : Int))]) (fun n => [(2, Blk g2 26 kSwitch s1)]) ((Vector.toList s1.Tables), 0) ⟨Sfx.start _, h⟩ ⟨rfl, ⟨rfl, rfl, rfl, trivial⟩, ⟨rfl, trivial⟩⟩ ?_
  rintro ⟨l4, i3⟩ ⟨hsf1, h⟩
  change Sfx (Vector.toList s1.Tables) i3 l4 at hsf1
  change F_l33_WalkMost_l1 s1 l4 i3 = some r at h
  change AW _ _ _ ⟨slots [(1, ptrL g2 (Lens.id kSwitch)), (7, rd (karr 4 (ksl kFlow)) s1.Tables), (8, rd (kint .i64) (i3 : Int))], ress [(2, Blk g2 26 kSwitch s1)], _⟩
  cases l4 with
  | nil =>
    unfold F_l33_WalkMost_l1 at h
    refine AW.seq ?_
    refine AW.region ?_
    refine AOps.cons (op_lss rfl rfl (vt rfl) (vk rfl)) rfl ?_
    refine AOps.nil ?_
    refine AW.seq ?_
    refine AW.cond (vt rfl) (fun hc => absurd (of_decide_eq_true hc) (hsf1.niln (by simp))) (fun hc => ?_)
    refine AW.exit ?_
    refine AW.seq ?_
    refine AW.seq ?_
    obtain ⟨x5, hx5, h⟩ := bsome h
    obtain ⟨x6, hx6, h⟩ := bsome h
    refine AW.regionAny [⟨[1], [16], [2], []⟩, ⟨[16], [17], [], []⟩, ⟨[1], [18], [2], []⟩, ⟨[18], [19], [], []⟩, ⟨[17, 19], [20], [], []⟩] mixed (by kernel_rfl) ?_
    refine SeqA.cons (loc [1] [2] rfl rfl fun S hs hr => op_load rfl rfl ty26 (vt ((hs 1 rfl).trans rfl)) (i := 2) ((hr 2 rfl).trans rfl)) ⟨rfl, rfl, rfl, rfl⟩ ?_
    refine SeqA.cons (loc [16] [] rfl rfl fun S hs hr => op_call (xs := [.tmp 16]) (c_walk_Most _ _ hx5) (Ent.mk Tryz.func5 rfl rfl) rfl rfl ⟨vt ((hs 16 rfl).trans rfl), trivial⟩) ⟨rfl, rfl, rfl, rfl⟩ ?_
    refine SeqA.cons (loc [1] [2] rfl rfl fun S hs hr => op_load rfl rfl ty26 (vt ((hs 1 rfl).trans rfl)) (i := 2) ((hr 2 rfl).trans rfl)) ⟨rfl, rfl, rfl, rfl⟩ ?_
    refine SeqA.cons (loc [18] [] rfl rfl fun S hs hr => op_call (xs := [.tmp 18]) (c_r33_Most _ _ hx6) (Ent.mk Tryz.func6 rfl rfl) rfl rfl ⟨vt ((hs 18 rfl).trans rfl), trivial⟩) ⟨rfl, rfl, rfl, rfl⟩ ?_
    refine SeqA.cons (loc [17, 19] [] rfl rfl fun S hs hr => op_neq rfl rfl (vt ((hs 17 rfl).trans rfl)) (vt ((hs 19 rfl).trans rfl))) ⟨rfl, rfl, rfl, rfl⟩ ?_
    refine AW.cond (vt rfl) (fun hc => ?_) (fun hc => ?_)
    · have h := cond_t hc h
      refine AW.seq ?_
      refine AW.region ?_
      refine AOps.cons (op_assign (A := rd kbool false) rfl rfl vb) rfl ?_
      refine AOps.nil ?_
      refine AW.ret ?_
      obtain rfl := Option.some.inj h
      exact ret1 Tryz.results3 rfl (out_tmp rfl)
    · have h := cond_f hc h
      refine AW.skip ?_
      refine AW.seq ?_
      refine AW.seq ?_
      obtain ⟨x7, hx7, h⟩ := bsome h
      refine AW.region ?_
      refine AOps.cons (op_load rfl rfl ty26 (vt rfl) (i := 2) rfl) rfl ?_
      refine AOps.cons (op_call (xs := [.tmp 21, .const (Value.int IntKind.i64 5)]) (c_pl_Switch _ _ _ hx7) (Ent.mk Tryz.func7 rfl rfl) rfl rfl ⟨vt rfl, vk rfl, trivial⟩) rfl ?_
      refine AOps.cons (op_not rfl rfl (vt rfl)) rfl ?_
      refine AOps.nil ?_
      refine AW.cond (vt rfl) (fun hc => ?_) (fun hc => ?_)
      · have h := cond_t hc h
        refine AW.seq ?_
        obtain ⟨x8, hx8, h⟩ := bsome h
        refine AW.region ?_
        refine AOps.cons (op_call (xs := []) (c_l33_awake _ hx8) (Ent.mk Tryz.func4 rfl rfl) rfl rfl trivial) rfl ?_
        refine AOps.cons (op_assign (A := rd kbool x8) rfl rfl (vt rfl)) rfl ?_
        refine AOps.nil ?_
        refine AW.ret ?_
        obtain rfl := Option.some.inj h
        exact ret1 Tryz.results3 rfl (out_tmp rfl)
      · have h := cond_f hc h
        refine AW.skip ?_
        refine AW.seq ?_
        obtain ⟨x9, hx9, h⟩ := bsome h
        refine AW.region ?_
        refine AOps.cons (op_load rfl rfl ty26 (vt rfl) (i := 2) rfl) rfl ?_
        refine AOps.cons (op_call (xs := [.tmp 25]) (c_walk_List _ _ hx9) (Ent.mk Tryz.func8 rfl rfl) rfl rfl ⟨vt rfl, trivial⟩) rfl ?_
        refine AOps.cons (op_assign (A := rd (ksl kRule) x9) rfl rfl (vt rfl)) rfl ?_
        refine AOps.nil ?_
        refine AW.seq ?_
        obtain ⟨x10, hx10, h⟩ := bsome h
        obtain ⟨e11, he11, h⟩ := bsome h
        obtain ⟨x12, hx12, h⟩ := bsome h
        obtain ⟨e13, he13, h⟩ := bsome h
        obtain ⟨x14, hx14, h⟩ := bsome h
        refine AW.regionAny [⟨[5], [27], [], []⟩, ⟨[27], [28], [], []⟩, ⟨[1], [29], [2], []⟩, ⟨[29], [30], [], []⟩, ⟨[28, 30], [31], [], []⟩, ⟨[31], [32], [], []⟩, ⟨[5, 32], [33], [], []⟩, ⟨[33, 32], [34], [], []⟩, ⟨[34, 32], [35], [], []⟩, ⟨[35, 32], [36], [], []⟩, ⟨[36], [37], [], []⟩, ⟨[5, 37], [38], [], []⟩, ⟨[5, 37], [39], [], []⟩, ⟨[39, 37], [40], [], []⟩, ⟨[40, 37], [41], [], []⟩, ⟨[38, 41, 37], [42], [], []⟩, ⟨[42, 37], [43], [], []⟩, ⟨[43, 37], [44], [], []⟩, ⟨[37], [45], [], []⟩, ⟨[44, 45, 37], [46], [], []⟩, ⟨[46, 37], [47], [], []⟩, ⟨[47], [48], [], []⟩, ⟨[5, 48], [49], [], []⟩, ⟨[5, 48], [50], [], []⟩, ⟨[50, 48], [51], [], []⟩, ⟨[51, 48], [52], [], []⟩, ⟨[49, 52, 48], [53], [], []⟩, ⟨[53, 48], [54], [], []⟩, ⟨[54, 48], [55], [], []⟩, ⟨[55, 48], [56], [], []⟩, ⟨[56, 48], [57], [], []⟩, ⟨[57, 48], [58], [], []⟩, ⟨[58], [59], [], []⟩, ⟨[59], [60], [], []⟩, ⟨[60, 59], [61], [], []⟩, ⟨[61], [2], [], []⟩] mixed (by kernel_rfl) ?_
        refine SeqA.cons (loc [5] [] rfl rfl fun S hs hr => op_move (A := rd (ksl kRule) x9) rfl rfl (vt ((hs 5 rfl).trans rfl))) ⟨rfl, rfl, rfl, rfl⟩ ?_
        refine SeqA.cons (loc [27] [] rfl rfl fun S hs hr => op_len' rfl rfl sl30 (vt ((hs 27 rfl).trans rfl))) ⟨rfl, rfl, rfl, rfl⟩ ?_
        refine SeqA.cons (loc [1] [2] rfl rfl fun S hs hr => op_load rfl rfl ty26 (vt ((hs 1 rfl).trans rfl)) (i := 2) ((hr 2 rfl).trans rfl)) ⟨rfl, rfl, rfl, rfl⟩ ?_
        refine SeqA.cons (loc [29] [] rfl rfl fun S hs hr => op_call (xs := [.tmp 29]) (c_walk_Most _ _ hx10) (Ent.mk Tryz.func5 rfl rfl) rfl rfl ⟨vt ((hs 29 rfl).trans rfl), trivial⟩) ⟨rfl, rfl, rfl, rfl⟩ ?_
        refine SeqA.cons (loc [28, 30] [] rfl rfl fun S hs hr => op_leq rfl rfl (vt ((hs 28 rfl).trans rfl)) (vt ((hs 30 rfl).trans rfl))) ⟨rfl, rfl, rfl, rfl⟩ ?_
        refine SeqA.cons (loc [31] [] rfl rfl fun S hs hr => op_move (A := rd kbool (decide ((x9.length : Int) ≤ x10))) rfl rfl (vt ((hs 31 rfl).trans rfl))) ⟨rfl, rfl, rfl, rfl⟩ ?_
        refine SeqA.cons (locg [5, 32] [] rfl rfl rfl rfl rfl rfl rfl fun hq S hs hr => op_move (A := rd (ksl kRule) x9) rfl rfl (vt ((hs 5 rfl).trans rfl))) ⟨rfl, rfl, rfl, rfl⟩ ?_
        refine SeqA.cons (locg [33, 32] [] rfl rfl rfl rfl rfl rfl rfl fun hq S hs hr => op_len' rfl rfl sl30 (vgt ((hs 33 rfl).trans rfl) hq)) ⟨rfl, rfl, rfl, rfl⟩ ?_
        refine SeqA.cons (locg [34, 32] [] rfl rfl rfl rfl rfl rfl rfl fun hq S hs hr => op_gtr rfl rfl (vgt ((hs 34 rfl).trans rfl) hq) (vk rfl)) ⟨rfl, rfl, rfl, rfl⟩ ?_
        refine SeqA.cons (loc [35, 32] [] rfl rfl fun S hs hr => op_all rfl rfl (vt ((hs 32 rfl).trans rfl)) (vt ((hs 35 rfl).trans rfl))) ⟨rfl, rfl, rfl, rfl⟩ ?_
        refine SeqA.cons (loc [36] [] rfl rfl fun S hs hr => op_move (A := rd kbool ((decide ((x9.length : Int) ≤ x10)) && (decide ((x9.length : Int) > 0)))) rfl rfl (vt ((hs 36 rfl).trans rfl))) ⟨rfl, rfl, rfl, rfl⟩ ?_
        refine SeqA.cons (locg [5, 37] [] rfl rfl rfl rfl rfl rfl rfl fun hq S hs hr => op_move (A := rd (ksl kRule) x9) rfl rfl (vt ((hs 5 rfl).trans rfl))) ⟨rfl, rfl, rfl, rfl⟩ ?_
        refine SeqA.cons (locg [5, 37] [] rfl rfl rfl rfl rfl rfl rfl fun hq S hs hr => op_move (A := rd (ksl kRule) x9) rfl rfl (vt ((hs 5 rfl).trans rfl))) ⟨rfl, rfl, rfl, rfl⟩ ?_
        refine SeqA.cons (locg [39, 37] [] rfl rfl rfl rfl rfl rfl rfl fun hq S hs hr => op_len' rfl rfl sl30 (vgt ((hs 39 rfl).trans rfl) hq)) ⟨rfl, rfl, rfl, rfl⟩ ?_
        refine SeqA.cons (locg [40, 37] [] rfl rfl rfl rfl rfl rfl rfl fun hq S hs hr => op_sub rfl rfl (vgt ((hs 40 rfl).trans rfl) hq) (vk rfl)) ⟨rfl, rfl, rfl, rfl⟩ ?_
        refine SeqA.cons (locg [38, 41, 37] [] rfl rfl rfl rfl rfl rfl rfl fun hq S hs hr => op_indexs' rfl rfl sl30 (vgt ((hs 38 rfl).trans rfl) hq) (vgt ((hs 41 rfl).trans rfl) hq) (opt_t he11 hq)) ⟨rfl, rfl, rfl, rfl⟩ ?_
        refine SeqA.cons (locg [42, 37] [] rfl rfl rfl rfl rfl rfl rfl fun hq S hs hr => op_fieldp lRule_0 rfl rfl fl41_0 (vgt ((hs 42 rfl).trans rfl) hq)) ⟨rfl, rfl, rfl, rfl⟩ ?_
        refine SeqA.cons (locg [43, 37] [] rfl rfl rfl rfl rfl rfl rfl fun hq S hs hr => op_loadp rfl rfl ty38 (vgt ((hs 43 rfl).trans rfl) hq)) ⟨rfl, rfl, rfl, rfl⟩ ?_
        refine SeqA.cons (locg [37] [] rfl rfl rfl rfl rfl rfl rfl fun hq S hs hr => op_call (xs := []) (c_cube_All _ (opt_t hx12 hq)) (Ent.mk Tryz.func9 rfl rfl) rfl rfl trivial) ⟨rfl, rfl, rfl, rfl⟩ ?_
        refine SeqA.cons (locg [44, 45, 37] [] rfl rfl rfl rfl rfl rfl rfl fun hq S hs hr => op_eqlk rfl rfl eqk38 (by decide) rfl eg38 (vgt ((hs 44 rfl).trans rfl) hq) (vgt ((hs 45 rfl).trans rfl) hq)) ⟨rfl, rfl, rfl, rfl⟩ ?_
        refine SeqA.cons (loc [46, 37] [] rfl rfl fun S hs hr => op_all rfl rfl (vt ((hs 37 rfl).trans rfl)) (vt ((hs 46 rfl).trans rfl))) ⟨rfl, rfl, rfl, rfl⟩ ?_
        refine SeqA.cons (loc [47] [] rfl rfl fun S hs hr => op_move (A := rd kbool (((decide ((x9.length : Int) ≤ x10)) && (decide ((x9.length : Int) > 0))) && (decide (e11.Cube = x12)))) rfl rfl (vt ((hs 47 rfl).trans rfl))) ⟨rfl, rfl, rfl, rfl⟩ ?_
        refine SeqA.cons (locg [5, 48] [] rfl rfl rfl rfl rfl rfl rfl fun hq S hs hr => op_move (A := rd (ksl kRule) x9) rfl rfl (vt ((hs 5 rfl).trans rfl))) ⟨rfl, rfl, rfl, rfl⟩ ?_
        refine SeqA.cons (locg [5, 48] [] rfl rfl rfl rfl rfl rfl rfl fun hq S hs hr => op_move (A := rd (ksl kRule) x9) rfl rfl (vt ((hs 5 rfl).trans rfl))) ⟨rfl, rfl, rfl, rfl⟩ ?_
        refine SeqA.cons (locg [50, 48] [] rfl rfl rfl rfl rfl rfl rfl fun hq S hs hr => op_len' rfl rfl sl30 (vgt ((hs 50 rfl).trans rfl) hq)) ⟨rfl, rfl, rfl, rfl⟩ ?_
        refine SeqA.cons (locg [51, 48] [] rfl rfl rfl rfl rfl rfl rfl fun hq S hs hr => op_sub rfl rfl (vgt ((hs 51 rfl).trans rfl) hq) (vk rfl)) ⟨rfl, rfl, rfl, rfl⟩ ?_
        refine SeqA.cons (locg [49, 52, 48] [] rfl rfl rfl rfl rfl rfl rfl fun hq S hs hr => op_indexs' rfl rfl sl30 (vgt ((hs 49 rfl).trans rfl) hq) (vgt ((hs 52 rfl).trans rfl) hq) (opt_t he13 hq)) ⟨rfl, rfl, rfl, rfl⟩ ?_
        refine SeqA.cons (locg [53, 48] [] rfl rfl rfl rfl rfl rfl rfl fun hq S hs hr => op_fieldp lRule_1 rfl rfl fl41_1 (vgt ((hs 53 rfl).trans rfl) hq)) ⟨rfl, rfl, rfl, rfl⟩ ?_
        refine SeqA.cons (locg [54, 48] [] rfl rfl rfl rfl rfl rfl rfl fun hq S hs hr => op_loadp rfl rfl ty39 (vgt ((hs 54 rfl).trans rfl) hq)) ⟨rfl, rfl, rfl, rfl⟩ ?_
        refine SeqA.cons (locg [55, 48] [] rfl rfl rfl rfl rfl rfl rfl fun hq S hs hr => op_len' rfl rfl sl39 (vgt ((hs 55 rfl).trans rfl) hq)) ⟨rfl, rfl, rfl, rfl⟩ ?_
        refine SeqA.cons (locg [56, 48] [] rfl rfl rfl rfl rfl rfl rfl fun hq S hs hr => op_eql rfl rfl (vgt ((hs 56 rfl).trans rfl) hq) (vk rfl)) ⟨rfl, rfl, rfl, rfl⟩ ?_
        refine SeqA.cons (loc [57, 48] [] rfl rfl fun S hs hr => op_all rfl rfl (vt ((hs 48 rfl).trans rfl)) (vt ((hs 57 rfl).trans rfl))) ⟨rfl, rfl, rfl, rfl⟩ ?_
        refine SeqA.cons (loc [58] [] rfl rfl fun S hs hr => op_move (A := rd kbool ((((decide ((x9.length : Int) ≤ x10)) && (decide ((x9.length : Int) > 0))) && (decide (e11.Cube = x12))) && (decide ((e13.Atoms.length : Int) = 0)))) rfl rfl (vt ((hs 58 rfl).trans rfl))) ⟨rfl, rfl, rfl, rfl⟩ ?_
        refine SeqA.cons (locg [59] [] rfl rfl rfl rfl rfl rfl rfl fun hq S hs hr => op_call (xs := []) (c_l33_awake _ (opt_t hx14 hq)) (Ent.mk Tryz.func4 rfl rfl) rfl rfl trivial) ⟨rfl, rfl, rfl, rfl⟩ ?_
        refine SeqA.cons (loc [60, 59] [] rfl rfl fun S hs hr => op_all rfl rfl (vt ((hs 59 rfl).trans rfl)) (vt ((hs 60 rfl).trans rfl))) ⟨rfl, rfl, rfl, rfl⟩ ?_
        refine SeqA.cons (loc [61] [] rfl rfl fun S hs hr => op_assign (A := rd kbool (((((decide ((x9.length : Int) ≤ x10)) && (decide ((x9.length : Int) > 0))) && (decide (e11.Cube = x12))) && (decide ((e13.Atoms.length : Int) = 0))) && x14)) rfl rfl (vt ((hs 61 rfl).trans rfl))) ⟨rfl, rfl, rfl, rfl⟩ ?_
        refine AW.ret ?_
        obtain rfl := Option.some.inj h
        exact ret1 Tryz.results3 rfl (out_tmp rfl)
  | cons x15 l4 =>
    unfold F_l33_WalkMost_l1 at h
    generalize hgo1 : F_l33_WalkMost_l1 s1 l4 = go1 at h
    refine AW.seq ?_
    refine AW.region ?_
    refine AOps.cons (op_lss rfl rfl (vt rfl) (vk rfl)) rfl ?_
    refine AOps.nil ?_
    refine AW.seq ?_
    refine AW.cond (vt rfl) (fun hc => ?_) (fun hc => absurd (hsf1.consn (by simp)) (of_decide_eq_false hc))
    have hlti3 := of_decide_eq_true hc
    refine AW.skip ?_
    refine AW.seq ?_
    refine AW.block ?_
    refine AW.seq ?_
    refine AW.region ?_
    refine AOps.cons (op_indexv rfl rfl ar23 ty22 (vt rfl) (vt rfl) hsf1.lget) rfl ?_
    refine AOps.cons (op_assign (A := rd (ksl kFlow) x15) rfl rfl (vt rfl)) rfl ?_
    refine AOps.nil ?_
    refine AW.seq ?_
    refine AW.region ?_
    refine AOps.cons (op_move (A := rd (ksl kFlow) x15) rfl rfl (vt rfl)) rfl ?_
    refine AOps.cons (op_len' rfl rfl sl22 (vt rfl)) rfl ?_
    refine AOps.cons (op_gtr rfl rfl (vt rfl) (vk rfl)) rfl ?_
    refine AOps.nil ?_
    refine AW.cond (vt rfl) (fun hc => ?_) (fun hc => ?_)
    · have h := cond_t hc h
      refine AW.seq ?_
      obtain ⟨x16, hx16, h⟩ := bsome h
      refine AW.region ?_
      refine AOps.cons (op_call (xs := []) (c_l33_awake _ hx16) (Ent.mk Tryz.func4 rfl rfl) rfl rfl trivial) rfl ?_
      refine AOps.cons (op_assign (A := rd kbool x16) rfl rfl (vt rfl)) rfl ?_
      refine AOps.nil ?_
      refine AW.ret ?_
      obtain rfl := Option.some.inj h
      exact ret1 Tryz.results3 rfl (out_tmp rfl)
    · have h := cond_f hc h
      refine AW.skip ?_
      refine AW.region ?_
      refine AOps.cons (op_incrc rfl rfl (vt rfl) (vk rfl) rfl hlti3) rfl ?_
      refine AOps.cons (op_move (A := rd (kint .i64) ((i3 + 1 : Nat) : Int)) rfl rfl (vt rfl)) rfl ?_
      refine AOps.nil ?_
      subst hgo1
      exact ⟨(l4, i3 + 1), Nat.lt_succ_self _, ⟨hsf1.next, h⟩, ⟨rfl, ⟨rfl, rfl, rfl, trivial⟩, ⟨rfl, trivial⟩⟩⟩
end Go.Proofs.YtokmmcflinnfiabGreat.W
