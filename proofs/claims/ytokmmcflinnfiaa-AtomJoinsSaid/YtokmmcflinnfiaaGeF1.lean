/- GeF1: a part of the proof. -/
import Derived.Test.YtokmmcflinnfiaaGeF0
set_option linter.unusedVariables false
set_option maxRecDepth 4000
set_option linter.unusedSimpArgs false
namespace Go.Proofs.Ytokmmcflinnfiaa.W
open Go Go.Wb
-- slices.IndexFunc[[][]weirbox/api.Action,[]weirbox/api.Action]
def F138_l1 (s1 : (List (List Action))) (f2 : ((List Action) → Option Bool)) : Nat → Nat → Option Int
  | 0, i3 => some (-1)
  | m4 + 1, i3 => (lget s1 (i3 : Int)).bind fun e5 => (f2 e5).bind fun x6 => (bif x6 then some (i3 : Int) else (F138_l1 s1 f2 m4) (i3 + 1))
def F138 (s1 : (List (List Action))) (f2 : ((List Action) → Option Bool)) : Option Int :=
  F138_l1 s1 f2 ((s1.length : Int) : Int).toNat 0
theorem c138 (s1 : (List (List Action))) (f2 : ((List Action) → Option Bool)) (r : Int) (h : F138 s1 f2 = some r) : PCon Try.prog 138 [rd (ksl (ksl kAction)) s1, fn1 Try.prog (ksl kAction) kbool f2] (rd (kint .i64) r) := by
  refine PCon.of (Con.intro0 Try.func138 rfl Try.ntmps138 rfl fun w H => ?_)
  unfold F138 at h
  refine AW.seq ?_
  refine AW.region ?_
  refine AOps.cons (op_assign (A := rd (kint .i64) 0) rfl rfl (vk rfl)) rfl ?_
  refine AOps.nil ?_
  refine AW.seq ?_
  refine AW.seq ?_
  refine AW.region ?_
  refine AOps.cons (op_move (A := rd (ksl (ksl kAction)) s1) rfl rfl (vt rfl)) rfl ?_
  refine AOps.cons (op_len' rfl rfl sl137 (vt rfl)) rfl ?_
  refine AOps.cons (op_move (A := rd (kint .i64) 0) rfl rfl (vk rfl)) rfl ?_
  refine AOps.nil ?_
  refine AW.block ?_
  refine AW.loopG (d := []) (ν := Nat × Nat) (fun n => Cnt (s1.length : Int) n.2 n.1 ∧ F138_l1 s1 f2 n.1 n.2 = some r) (fun n => n.1) (fun n => [(0, rd (ksl (ksl kAction)) s1), (1, fn1 Try.prog (ksl kAction) kbool f2), (7, rd (kint .i64) (s1.length : Int)), (8, rd (kint .i64) (n.2 : Int))]) (fun n => []) (((s1.length : Int) : Int).toNat, 0) ⟨Cnt.start _, h⟩ ⟨rfl, ⟨rfl, rfl, rfl, rfl, trivial⟩, trivial⟩ ?_
  rintro ⟨m4, i3⟩ ⟨hsf1, h⟩
  change Cnt (s1.length : Int) i3 m4 at hsf1
  change F138_l1 s1 f2 m4 i3 = some r at h
  change AW _ _ _ ⟨slots [(0, rd (ksl (ksl kAction)) s1), (1, fn1 Try.prog (ksl kAction) kbool f2), (7, rd (kint .i64) (s1.length : Int)), (8, rd (kint .i64) (i3 : Int))], ress [], _⟩
  cases m4 with
  | zero =>
    unfold F138_l1 at h
    refine AW.seq ?_
    refine AW.region ?_
    refine AOps.cons (op_lss rfl rfl (vt rfl) (vt rfl)) rfl ?_
    refine AOps.nil ?_
    refine AW.seq ?_
    refine AW.cond (vt rfl) (fun hc => absurd (of_decide_eq_true hc) hsf1.zero) (fun hc => ?_)
    refine AW.exit ?_
    refine AW.seq ?_
    refine AW.region ?_
    refine AOps.cons (op_assign (A := rd (kint .i64) (-1)) rfl rfl (vk rfl)) rfl ?_
    refine AOps.nil ?_
    refine AW.ret ?_
    obtain rfl := Option.some.inj h
    exact ret1 Try.results138 rfl (out_tmp rfl)
  | succ m4 =>
    unfold F138_l1 at h
    generalize hgo1 : F138_l1 s1 f2 m4 = go1 at h
    refine AW.seq ?_
    refine AW.region ?_
    refine AOps.cons (op_lss rfl rfl (vt rfl) (vt rfl)) rfl ?_
    refine AOps.nil ?_
    refine AW.seq ?_
    refine AW.cond (vt rfl) (fun hc => ?_) (fun hc => absurd hsf1.succ (of_decide_eq_false hc))
    have hlti3 := of_decide_eq_true hc
    refine AW.skip ?_
    refine AW.seq ?_
    refine AW.block ?_
    refine AW.seq ?_
    refine AW.region ?_
    refine AOps.cons (op_move (A := rd (kint .i64) (i3 : Int)) rfl rfl (vt rfl)) rfl ?_
    refine AOps.cons (op_assign (A := rd (kint .i64) (i3 : Int)) rfl rfl (vt rfl)) rfl ?_
    refine AOps.nil ?_
    refine AW.seq ?_
    obtain ⟨e5, he5, h⟩ := bsome h
    obtain ⟨x6, hx6, h⟩ := bsome h
    refine AW.region ?_
    refine AOps.cons (op_move (A := fn1 Try.prog (ksl kAction) kbool f2) rfl rfl (vt rfl)) rfl ?_
    refine AOps.cons (op_move (A := rd (ksl (ksl kAction)) s1) rfl rfl (vt rfl)) rfl ?_
    refine AOps.cons (op_move (A := rd (kint .i64) (i3 : Int)) rfl rfl (vt rfl)) rfl ?_
    refine AOps.cons (op_indexs' rfl rfl sl137 (vt rfl) (vt rfl) he5) rfl ?_
    refine AOps.cons (op_loadp rfl rfl ty73 (vt rfl)) rfl ?_
    refine AOps.cons (op_call1 hx6 rfl rfl (vt rfl) (vt rfl)) rfl ?_
    refine AOps.nil ?_
    refine AW.cond (vt rfl) (fun hc => ?_) (fun hc => ?_)
    · have h := cond_t hc h
      refine AW.seq ?_
      refine AW.region ?_
      refine AOps.cons (op_move (A := rd (kint .i64) (i3 : Int)) rfl rfl (vt rfl)) rfl ?_
      refine AOps.cons (op_assign (A := rd (kint .i64) (i3 : Int)) rfl rfl (vt rfl)) rfl ?_
      refine AOps.nil ?_
      refine AW.ret ?_
      obtain rfl := Option.some.inj h
      exact ret1 Try.results138 rfl (out_tmp rfl)
    · have h := cond_f hc h
      refine AW.skip ?_
      refine AW.region ?_
      refine AOps.cons (op_incr (t := 7) rfl rfl (vt rfl) (vk rfl) (vt rfl) hlti3) rfl ?_
      refine AOps.cons (op_move (A := rd (kint .i64) ((i3 + 1 : Nat) : Int)) rfl rfl (vt rfl)) rfl ?_
      refine AOps.nil ?_
      subst hgo1
      exact ⟨(m4, i3 + 1), Nat.lt_succ_self _, ⟨hsf1.next, h⟩, ⟨rfl, ⟨rfl, rfl, rfl, rfl, trivial⟩, trivial⟩⟩
-- slices.ContainsFunc[[][]weirbox/api.Action,[]weirbox/api.Action]
def F95 (s1 : (List (List Action))) (f2 : ((List Action) → Option Bool)) : Option Bool :=
  (F138 s1 f2).bind fun x3 => some (decide (x3 ≥ 0))
theorem c95 (s1 : (List (List Action))) (f2 : ((List Action) → Option Bool)) (r : Bool) (h : F95 s1 f2 = some r) : PCon Try.prog 95 [rd (ksl (ksl kAction)) s1, fn1 Try.prog (ksl kAction) kbool f2] (rd kbool r) := by
  refine PCon.of (Con.intro0 Try.func95 rfl Try.ntmps95 rfl fun w H => ?_)
  unfold F95 at h
  refine AW.seq ?_
  refine AW.region ?_
  refine AOps.cons (op_assign (A := rd kbool false) rfl rfl vb) rfl ?_
  refine AOps.nil ?_
  refine AW.seq ?_
  obtain ⟨x3, hx3, h⟩ := bsome h
  refine AW.region ?_
  refine AOps.cons (op_move (A := rd (ksl (ksl kAction)) s1) rfl rfl (vt rfl)) rfl ?_
  refine AOps.cons (op_move (A := fn1 Try.prog (ksl kAction) kbool f2) rfl rfl (vt rfl)) rfl ?_
  refine AOps.cons (op_call (xs := [.tmp 5, .tmp 6]) (c138 _ _ _ hx3) (Ent.mk Try.func138 rfl rfl) rfl rfl ⟨vt rfl, vt rfl, trivial⟩) rfl ?_
  refine AOps.cons (op_geq rfl rfl (vt rfl) (vk rfl)) rfl ?_
  refine AOps.cons (op_assign (A := rd kbool (decide (x3 ≥ 0))) rfl rfl (vt rfl)) rfl ?_
  refine AOps.nil ?_
  refine AW.ret ?_
  obtain rfl := Option.some.inj h
  exact ret1 Try.results95 rfl (out_tmp rfl)
-- weirbox/weirboxlaw30.light$1
def F96 (a1 : (List Action)) : Option Bool :=
  some (decide ((a1.length : Int) > 12))
theorem c96 (a1 : (List Action)) (r : Bool) (h : F96 a1 = some r) : PCon Try.prog 96 [rd (ksl kAction) a1] (rd kbool r) := by
  refine PCon.of (Con.intro0 Try.func96 rfl Try.ntmps96 rfl fun w H => ?_)
  unfold F96 at h
  refine AW.seq ?_
  refine AW.region ?_
  refine AOps.cons (op_assign (A := rd kbool false) rfl rfl vb) rfl ?_
  refine AOps.nil ?_
  refine AW.seq ?_
  refine AW.region ?_
  refine AOps.cons (op_move (A := rd (ksl kAction) a1) rfl rfl (vt rfl)) rfl ?_
  refine AOps.cons (op_len' rfl rfl sl73 (vt rfl)) rfl ?_
  refine AOps.cons (op_gtr rfl rfl (vt rfl) (vk rfl)) rfl ?_
  refine AOps.cons (op_assign (A := rd kbool (decide ((a1.length : Int) > 12))) rfl rfl (vt rfl)) rfl ?_
  refine AOps.nil ?_
  refine AW.ret ?_
  obtain rfl := Option.some.inj h
  exact ret1 Try.results96 rfl (out_tmp rfl)
-- weirbox/weirboxlaw30.light
def F46 (l1 : (List Group)) (acts2 : (List (List Action))) : Option Bool :=
  (F12 l1 9 3).bind fun x3 => (opt x3 (F95 acts2 F96)).bind fun x4 => some (x3 && (!x4))
theorem c46 (l1 : (List Group)) (acts2 : (List (List Action))) (r : Bool) (h : F46 l1 acts2 = some r) : PCon Try.prog 46 [rd (ksl kGroup) l1, rd (ksl (ksl kAction)) acts2] (rd kbool r) := by
  refine PCon.of (Con.intro0 Try.func46 rfl Try.ntmps46 rfl fun w H => ?_)
  unfold F46 at h
  refine AW.seq ?_
  refine AW.region ?_
  refine AOps.cons (op_assign (A := rd kbool false) rfl rfl vb) rfl ?_
  refine AOps.nil ?_
  refine AW.seq ?_
  obtain ⟨x3, hx3, h⟩ := bsome h
  obtain ⟨x4, hx4, h⟩ := bsome h
  refine AW.region ?_
  refine AOps.cons (op_move (A := rd (ksl kGroup) l1) rfl rfl (vt rfl)) rfl ?_
  refine AOps.cons (op_call (xs := [.tmp 5, .const (Value.int IntKind.i64 9), .const (Value.int IntKind.i64 3)]) (c12 _ _ _ _ hx3) (Ent.mk Try.func12 rfl rfl) rfl rfl ⟨vt rfl, vk rfl, vk rfl, trivial⟩) rfl ?_
  refine AOps.cons (op_move (A := rd kbool x3) rfl rfl (vt rfl)) rfl ?_
  refine AOps.consG (OpG.guard rfl rfl rfl rfl rfl fun hq => op_move (A := rd (ksl (ksl kAction)) acts2) rfl rfl (vt rfl)) ?_
  refine AOps.consG (OpG.guard rfl rfl rfl rfl rfl fun hq => op_call (xs := [.tmp 8, .func 96]) (c95 _ _ _ (opt_t hx4 hq)) (Ent.mk Try.func95 rfl rfl) rfl rfl ⟨vgt rfl hq, vf1 (Ent.mk Try.func96 rfl rfl) c96, trivial⟩) ?_
  refine AOps.consG (OpG.guard rfl rfl rfl rfl rfl fun hq => op_not rfl rfl (vgt rfl hq)) ?_
  refine AOps.cons (op_all rfl rfl (vt rfl) (vt rfl)) rfl ?_
  refine AOps.cons (op_assign (A := rd kbool (x3 && (!x4))) rfl rfl (vt rfl)) rfl ?_
  refine AOps.nil ?_
  refine AW.ret ?_
  obtain rfl := Option.some.inj h
  exact ret1 Try.results46 rfl (out_tmp rfl)
-- weirbox/exec.most
def F140 (a1 : Action) : Option Int :=
  (bif (decide (a1.Port = 4294967293)) then some a1.Max else some 0)
theorem c140 (a1 : Action) (r : Int) (h : F140 a1 = some r) : PCon Try.prog 140 [rd kAction a1] (rd (kint .i64) r) := by
  refine PCon.of (Con.intro0 Try.func140 rfl Try.ntmps140 rfl fun w H => ?_)
  unfold F140 at h
  refine AW.seq ?_
  refine AW.region ?_
  refine AOps.consT rfl (op_box 2 rfl rfl (vt rfl)) ?_
  rintro _ ⟨g2, rfl⟩
  refine AOps.cons (op_assign (A := rd (kint .i64) 0) rfl rfl (vk rfl)) rfl ?_
  refine AOps.nil ?_
  refine AW.seq ?_
  refine AW.seq ?_
  refine AW.region ?_
  refine AOps.cons (op_field lAction_1 rfl rfl fl82_1 (vt rfl)) rfl ?_
  refine AOps.cons (op_load rfl rfl ty3 (vt rfl) (i := 2) rfl) rfl ?_
  refine AOps.cons (op_eql rfl rfl (vt rfl) (vk rfl)) rfl ?_
  refine AOps.nil ?_
  refine AW.cond (vt rfl) (fun hc => ?_) (fun hc => ?_)
  · have h := cond_t hc h
    refine AW.seq ?_
    refine AW.region ?_
    refine AOps.cons (op_field lAction_2 rfl rfl fl82_2 (vt rfl)) rfl ?_
    refine AOps.cons (op_load rfl rfl ty3 (vt rfl) (i := 2) rfl) rfl ?_
    refine AOps.cons (op_assign (A := rd (kint .i64) a1.Max) rfl rfl (vt rfl)) rfl ?_
    refine AOps.nil ?_
    refine AW.ret ?_
    obtain rfl := Option.some.inj h
    exact ret1 Try.results140 rfl (out_tmp rfl)
  · have h := cond_f hc h
    refine AW.skip ?_
    refine AW.seq ?_
    refine AW.region ?_
    refine AOps.cons (op_assign (A := rd (kint .i64) 0) rfl rfl (vk rfl)) rfl ?_
    refine AOps.nil ?_
    refine AW.ret ?_
    obtain rfl := Option.some.inj h
    exact ret1 Try.results140 rfl (out_tmp rfl)
-- weirbox/group.place$1
def F175 (g1 : Group) (c2 : Int) : Option Bool :=
  some (decide (g1.ID = c2))
theorem c175 (g1 : Group) (c2 : Int) (r : Bool) (h : F175 g1 c2 = some r) : PCon Try.prog 175 [rd kGroup g1, rp (kint .i64) c2] (rd kbool r) := by
  refine PCon.of (Con.intro0 Try.func175 rfl Try.ntmps175 rfl fun w H => ?_)
  unfold F175 at h
  refine AW.seq ?_
  refine AW.region ?_
  refine AOps.consT rfl (op_box 3 rfl rfl (vt rfl)) ?_
  rintro _ ⟨g3, rfl⟩
  refine AOps.cons (op_assign (A := rd kbool false) rfl rfl vb) rfl ?_
  refine AOps.nil ?_
  refine AW.seq ?_
  refine AW.region ?_
  refine AOps.cons (op_field lGroup_0 rfl rfl fl40_0 (vt rfl)) rfl ?_
  refine AOps.cons (op_load rfl rfl ty3 (vt rfl) (i := 3) rfl) rfl ?_
  refine AOps.cons (op_loadp rfl rfl ty3 (vt rfl)) rfl ?_
  refine AOps.cons (op_eql rfl rfl (vt rfl) (vt rfl)) rfl ?_
  refine AOps.cons (op_assign (A := rd kbool (decide (g1.ID = c2))) rfl rfl (vt rfl)) rfl ?_
  refine AOps.nil ?_
  refine AW.ret ?_
  obtain rfl := Option.some.inj h
  exact ret1 Try.results175 rfl (out_tmp rfl)
-- weirbox/group.place
def F161 (l1 : (List Group)) (id2 : Int) : Option Int :=
  (F69 l1 (fun x => F175 x id2)).bind fun x4 => some x4
theorem c161 (l1 : (List Group)) (id2 : Int) (r : Int) (h : F161 l1 id2 = some r) : PCon Try.prog 161 [rd (ksl kGroup) l1, rd (kint .i64) id2] (rd (kint .i64) r) := by
  refine PCon.of (Con.intro0 Try.func161 rfl Try.ntmps161 rfl fun w H => ?_)
  unfold F161 at h
  refine AW.seq ?_
  refine AW.region ?_
  refine AOps.consT rfl (op_box 4 rfl rfl (vt rfl)) ?_
  rintro _ ⟨g3, rfl⟩
  refine AOps.cons (op_assign (A := rd (kint .i64) 0) rfl rfl (vk rfl)) rfl ?_
  refine AOps.nil ?_
  refine AW.seq ?_
  refine AW.freezeB 3 4 rfl rfl rfl ?_
  obtain ⟨x4, hx4, h⟩ := bsome h
  refine AW.region ?_
  refine AOps.cons (op_move (A := rd (ksl kGroup) l1) rfl rfl (vt rfl)) rfl ?_
  refine AOps.cons (op_fn1 (cs := [.tmp 3]) (CAs := [rp (kint .i64) id2]) (fun x => F175 x id2) rfl rfl (Ent.mk Try.func175 rfl rfl) ⟨vt rfl, trivial⟩ (fun x y h => c175 _ _ y h)) rfl ?_
  refine AOps.cons (op_call (xs := [.tmp 5, .tmp 6]) (c69 _ _ _ hx4) (Ent.mk Try.func69 rfl rfl) rfl rfl ⟨vt rfl, vt rfl, trivial⟩) rfl ?_
  refine AOps.cons (op_assign (A := rd (kint .i64) x4) rfl rfl (vt rfl)) rfl ?_
  refine AOps.nil ?_
  refine AW.ret ?_
  obtain rfl := Option.some.inj h
  exact ret1 Try.results161 rfl (out_tmp rfl)
-- slices.Clone[[]weirbox/api.Group,weirbox/api.Group]
def F115 (s : List Group) : Option (List Group) := appd [] s
theorem c115o (s : List Group) (r : List Group) (h : F115 s = some r) : Con Try.prog 115 [rd (ksl kGroup) s] emp (fun v => raw v) (fun v => Row v 40 kGroup r) := by
  refine Con.intro0 Try.func115 rfl Try.ntmps115 rfl fun w H => ?_
  unfold F115 at h
  refine AW.newnil 1001 40 kGroup ?_
  refine AW.seq ?_
  refine AW.region ?_
  refine AOps.cons (op_assign (A := raw (.slice none 0 0)) rfl rfl vc) rfl ?_
  refine AOps.nil ?_
  refine AW.seq ?_
  refine AW.seq ?_
  refine AW.region ?_
  refine AOps.cons (op_move (A := rd (ksl kGroup) s) rfl rfl (vt rfl)) rfl ?_
  refine AOps.consT rfl (op_eqnil rfl rfl sl22 (vt rfl)) ?_
  rintro _ ⟨b, hb, rfl⟩
  refine AOps.nil ?_
  refine AW.cond (vt rfl) (fun hc => ?_) (fun hc => ?_)
  · obtain rfl := hb hc
    refine AW.seq ?_
    refine AW.region ?_
    refine AOps.cons (op_assign (A := raw (.slice none 0 0)) rfl rfl vc) rfl ?_
    refine AOps.nil ?_
    refine AW.ret ?_
    obtain rfl := (appd_of h).2
    exact ret1R (i := 1001) Try.results115 rfl rfl rfl
  · refine AW.skip ?_
    refine AW.seq ?_
    refine AW.region ?_
    refine AOps.consT rfl (op_buildSlice 1002 (ps := []) (l := []) rfl rfl sl22 zr40 rfl rfl rfl rfl) ?_
    rintro _ ⟨v1, rfl⟩
    refine AOps.cons (op_move (A := rd (ksl kGroup) s) rfl rfl (vt rfl)) rfl ?_
    refine AOps.consT rfl (op_append' 1002 h rfl rfl el22 (vt rfl) rfl (vt rfl)) ?_
    rintro _ ⟨v2, rfl⟩
    refine AOps.cons (op_assign (A := raw v2) rfl rfl (vt rfl)) rfl ?_
    refine AOps.nil ?_
    refine AW.ret ?_
    exact ret1R (i := 1002) Try.results115 rfl rfl rfl
theorem c115 (s : List Group) (r : List Group) (h : F115 s = some r) : PCon Try.prog 115 [rd (ksl kGroup) s] (rd (ksl kGroup) r) := PCon.of_row (c115o s r h)
-- slices.Clone[[]weirbox/api.Bucket,weirbox/api.Bucket]
def F180 (s : List Bucket) : Option (List Bucket) := appd [] s
theorem c180o (s : List Bucket) (r : List Bucket) (h : F180 s = some r) : Con Try.prog 180 [rd (ksl kBucket) s] emp (fun v => raw v) (fun v => Row v 104 kBucket r) := by
  refine Con.intro0 Try.func180 rfl Try.ntmps180 rfl fun w H => ?_
  unfold F180 at h
  refine AW.newnil 1001 104 kBucket ?_
  refine AW.seq ?_
  refine AW.region ?_
  refine AOps.cons (op_assign (A := raw (.slice none 0 0)) rfl rfl vc) rfl ?_
  refine AOps.nil ?_
  refine AW.seq ?_
  refine AW.seq ?_
  refine AW.region ?_
  refine AOps.cons (op_move (A := rd (ksl kBucket) s) rfl rfl (vt rfl)) rfl ?_
  refine AOps.consT rfl (op_eqnil rfl rfl sl38 (vt rfl)) ?_
  rintro _ ⟨b, hb, rfl⟩
  refine AOps.nil ?_
  refine AW.cond (vt rfl) (fun hc => ?_) (fun hc => ?_)
  · obtain rfl := hb hc
    refine AW.seq ?_
    refine AW.region ?_
    refine AOps.cons (op_assign (A := raw (.slice none 0 0)) rfl rfl vc) rfl ?_
    refine AOps.nil ?_
    refine AW.ret ?_
    obtain rfl := (appd_of h).2
    exact ret1R (i := 1001) Try.results180 rfl rfl rfl
  · refine AW.skip ?_
    refine AW.seq ?_
    refine AW.region ?_
    refine AOps.consT rfl (op_buildSlice 1002 (ps := []) (l := []) rfl rfl sl38 zr104 rfl rfl rfl rfl) ?_
    rintro _ ⟨v1, rfl⟩
    refine AOps.cons (op_move (A := rd (ksl kBucket) s) rfl rfl (vt rfl)) rfl ?_
    refine AOps.consT rfl (op_append' 1002 h rfl rfl el38 (vt rfl) rfl (vt rfl)) ?_
    rintro _ ⟨v2, rfl⟩
    refine AOps.cons (op_assign (A := raw v2) rfl rfl (vt rfl)) rfl ?_
    refine AOps.nil ?_
    refine AW.ret ?_
    exact ret1R (i := 1002) Try.results180 rfl rfl rfl
theorem c180 (s : List Bucket) (r : List Bucket) (h : F180 s = some r) : PCon Try.prog 180 [rd (ksl kBucket) s] (rd (ksl kBucket) r) := PCon.of_row (c180o s r h)
end Go.Proofs.Ytokmmcflinnfiaa.W
