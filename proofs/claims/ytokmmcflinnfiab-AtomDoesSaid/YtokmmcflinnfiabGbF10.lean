/- GbF10: a part of the proof. -/
import Derived.Test.YtokmmcflinnfiabGbF9
set_option linter.unusedVariables false
set_option maxRecDepth 4000
set_option linter.unusedSimpArgs false
namespace Go.Proofs.Ytokmmcflinnfiab.W
open Go Go.Wb
-- slices.ContainsFunc[[]weirbox/api.Bucket,weirbox/api.Bucket]
def F51 (s1 : (List Bucket)) (f2 : (Bucket → Option Bool)) : Option Bool :=
  (F64 s1 f2).bind fun x3 => some (decide (x3 ≥ 0))
theorem c51 (s1 : (List Bucket)) (f2 : (Bucket → Option Bool)) (r : Bool) (h : F51 s1 f2 = some r) : PCon Try.prog 51 [rd (ksl kBucket) s1, fn1 Try.prog kBucket kbool f2] (rd kbool r) := by
  refine PCon.of (Con.intro0 Try.func51 rfl Try.ntmps51 rfl fun w H => ?_)
  unfold F51 at h
  refine AW.seq ?_
  refine AW.region ?_
  refine AOps.cons (op_assign (A := rd kbool false) rfl rfl vb) rfl ?_
  refine AOps.nil ?_
  refine AW.seq ?_
  obtain ⟨x3, hx3, h⟩ := bsome h
  refine AW.region ?_
  refine AOps.cons (op_move (A := rd (ksl kBucket) s1) rfl rfl (vt rfl)) rfl ?_
  refine AOps.cons (op_move (A := fn1 Try.prog kBucket kbool f2) rfl rfl (vt rfl)) rfl ?_
  refine AOps.cons (op_call (xs := [.tmp 5, .tmp 6]) (c64 _ _ _ hx3) (Ent.mk Try.func64 rfl rfl) rfl rfl ⟨vt rfl, vt rfl, trivial⟩) rfl ?_
  refine AOps.cons (op_geq rfl rfl (vt rfl) (vk rfl)) rfl ?_
  refine AOps.cons (op_assign (A := rd kbool (decide (x3 ≥ 0))) rfl rfl (vt rfl)) rfl ?_
  refine AOps.nil ?_
  refine AW.ret ?_
  obtain rfl := Option.some.inj h
  exact ret1 Try.results51 rfl (out_tmp rfl)
-- weirbox/weirboxplain.Acts
def F12 (l1 : (List Action)) : Option Bool :=
  some (decide ((l1.length : Int) ≤ 12))
theorem c12 (l1 : (List Action)) (r : Bool) (h : F12 l1 = some r) : PCon Try.prog 12 [rd (ksl kAction) l1] (rd kbool r) := by
  refine PCon.of (Con.intro0 Try.func12 rfl Try.ntmps12 rfl fun w H => ?_)
  unfold F12 at h
  refine AW.seq ?_
  refine AW.region ?_
  refine AOps.cons (op_assign (A := rd kbool false) rfl rfl vb) rfl ?_
  refine AOps.nil ?_
  refine AW.seq ?_
  refine AW.region ?_
  refine AOps.cons (op_move (A := rd (ksl kAction) l1) rfl rfl (vt rfl)) rfl ?_
  refine AOps.cons (op_len' rfl rfl sl22 (vt rfl)) rfl ?_
  refine AOps.cons (op_leq rfl rfl (vt rfl) (vk rfl)) rfl ?_
  refine AOps.cons (op_assign (A := rd kbool (decide ((l1.length : Int) ≤ 12))) rfl rfl (vt rfl)) rfl ?_
  refine AOps.nil ?_
  refine AW.ret ?_
  obtain rfl := Option.some.inj h
  exact ret1 Try.results12 rfl (out_tmp rfl)
-- weirbox/weirboxplain.Buckets$1
def F52 (x1 : Bucket) : Option Bool :=
  (F12 x1.Acts).bind fun x3 => some (!x3)
theorem c52 (x1 : Bucket) (r : Bool) (h : F52 x1 = some r) : PCon Try.prog 52 [rd kBucket x1] (rd kbool r) := by
  refine PCon.of (Con.intro0 Try.func52 rfl Try.ntmps52 rfl fun w H => ?_)
  unfold F52 at h
  refine AW.seq ?_
  refine AW.region ?_
  refine AOps.consT rfl (op_box 2 rfl rfl (vt rfl)) ?_
  rintro _ ⟨g2, rfl⟩
  refine AOps.cons (op_assign (A := rd kbool false) rfl rfl vb) rfl ?_
  refine AOps.nil ?_
  refine AW.seq ?_
  obtain ⟨x3, hx3, h⟩ := bsome h
  refine AW.region ?_
  refine AOps.cons (op_field lBucket_3 rfl rfl fl93_3 (vt rfl)) rfl ?_
  refine AOps.cons (op_load rfl rfl ty22 (vt rfl) (i := 2) rfl) rfl ?_
  refine AOps.cons (op_call (xs := [.tmp 4]) (c12 _ _ hx3) (Ent.mk Try.func12 rfl rfl) rfl rfl ⟨vt rfl, trivial⟩) rfl ?_
  refine AOps.cons (op_not rfl rfl (vt rfl)) rfl ?_
  refine AOps.cons (op_assign (A := rd kbool (!x3)) rfl rfl (vt rfl)) rfl ?_
  refine AOps.nil ?_
  refine AW.ret ?_
  obtain rfl := Option.some.inj h
  exact ret1 Try.results52 rfl (out_tmp rfl)
-- weirbox/weirboxplain.Buckets
def F28 (l1 : (List Bucket)) (many2 : Int) : Option Bool :=
  (opt (decide ((l1.length : Int) ≤ many2)) (F51 l1 F52)).bind fun x3 => some ((decide ((l1.length : Int) ≤ many2)) && (!x3))
theorem c28 (l1 : (List Bucket)) (many2 : Int) (r : Bool) (h : F28 l1 many2 = some r) : PCon Try.prog 28 [rd (ksl kBucket) l1, rd (kint .i64) many2] (rd kbool r) := by
  refine PCon.of (Con.intro0 Try.func28 rfl Try.ntmps28 rfl fun w H => ?_)
  unfold F28 at h
  refine AW.seq ?_
  refine AW.region ?_
  refine AOps.cons (op_assign (A := rd kbool false) rfl rfl vb) rfl ?_
  refine AOps.nil ?_
  refine AW.seq ?_
  obtain ⟨x3, hx3, h⟩ := bsome h
  refine AW.region ?_
  refine AOps.cons (op_move (A := rd (ksl kBucket) l1) rfl rfl (vt rfl)) rfl ?_
  refine AOps.cons (op_len' rfl rfl sl71 (vt rfl)) rfl ?_
  refine AOps.cons (op_move (A := rd (kint .i64) many2) rfl rfl (vt rfl)) rfl ?_
  refine AOps.cons (op_leq rfl rfl (vt rfl) (vt rfl)) rfl ?_
  refine AOps.cons (op_move (A := rd kbool (decide ((l1.length : Int) ≤ many2))) rfl rfl (vt rfl)) rfl ?_
  refine AOps.consG (OpG.guard rfl rfl rfl rfl rfl fun hq => op_move (A := rd (ksl kBucket) l1) rfl rfl (vt rfl)) ?_
  refine AOps.consG (OpG.guard rfl rfl rfl rfl rfl fun hq => op_call (xs := [.tmp 10, .func 52]) (c51 _ _ _ (opt_t hx3 hq)) (Ent.mk Try.func51 rfl rfl) rfl rfl ⟨vgt rfl hq, vf1 (Ent.mk Try.func52 rfl rfl) c52, trivial⟩) ?_
  refine AOps.consG (OpG.guard rfl rfl rfl rfl rfl fun hq => op_not rfl rfl (vgt rfl hq)) ?_
  refine AOps.cons (op_all rfl rfl (vt rfl) (vt rfl)) rfl ?_
  refine AOps.cons (op_assign (A := rd kbool ((decide ((l1.length : Int) ≤ many2)) && (!x3))) rfl rfl (vt rfl)) rfl ?_
  refine AOps.nil ?_
  refine AW.ret ?_
  obtain rfl := Option.some.inj h
  exact ret1 Try.results28 rfl (out_tmp rfl)
-- weirbox/weirboxplain.Groups$1
def F27 (g1 : Group) (c2 : Int) : Option Bool :=
  (F28 g1.Buckets c2).bind fun x4 => some (!x4)
theorem c27 (g1 : Group) (c2 : Int) (r : Bool) (h : F27 g1 c2 = some r) : PCon Try.prog 27 [rd kGroup g1, rp (kint .i64) c2] (rd kbool r) := by
  refine PCon.of (Con.intro0 Try.func27 rfl Try.ntmps27 rfl fun w H => ?_)
  unfold F27 at h
  refine AW.seq ?_
  refine AW.region ?_
  refine AOps.consT rfl (op_box 3 rfl rfl (vt rfl)) ?_
  rintro _ ⟨g3, rfl⟩
  refine AOps.cons (op_assign (A := rd kbool false) rfl rfl vb) rfl ?_
  refine AOps.nil ?_
  refine AW.seq ?_
  obtain ⟨x4, hx4, h⟩ := bsome h
  refine AW.region ?_
  refine AOps.cons (op_field lGroup_2 rfl rfl fl73_2 (vt rfl)) rfl ?_
  refine AOps.cons (op_load rfl rfl ty71 (vt rfl) (i := 3) rfl) rfl ?_
  refine AOps.cons (op_loadp rfl rfl ty3 (vt rfl)) rfl ?_
  refine AOps.cons (op_call (xs := [.tmp 5, .tmp 6]) (c28 _ _ _ hx4) (Ent.mk Try.func28 rfl rfl) rfl rfl ⟨vt rfl, vt rfl, trivial⟩) rfl ?_
  refine AOps.cons (op_not rfl rfl (vt rfl)) rfl ?_
  refine AOps.cons (op_assign (A := rd kbool (!x4)) rfl rfl (vt rfl)) rfl ?_
  refine AOps.nil ?_
  refine AW.ret ?_
  obtain rfl := Option.some.inj h
  exact ret1 Try.results27 rfl (out_tmp rfl)
-- slices.ContainsFunc[[]weirbox/api.Group,weirbox/api.Group]
def F26 (s1 : (List Group)) (f2 : (Group → Option Bool)) : Option Bool :=
  (F50 s1 f2).bind fun x3 => some (decide (x3 ≥ 0))
theorem c26 (s1 : (List Group)) (f2 : (Group → Option Bool)) (r : Bool) (h : F26 s1 f2 = some r) : PCon Try.prog 26 [rd (ksl kGroup) s1, fn1 Try.prog kGroup kbool f2] (rd kbool r) := by
  refine PCon.of (Con.intro0 Try.func26 rfl Try.ntmps26 rfl fun w H => ?_)
  unfold F26 at h
  refine AW.seq ?_
  refine AW.region ?_
  refine AOps.cons (op_assign (A := rd kbool false) rfl rfl vb) rfl ?_
  refine AOps.nil ?_
  refine AW.seq ?_
  obtain ⟨x3, hx3, h⟩ := bsome h
  refine AW.region ?_
  refine AOps.cons (op_move (A := rd (ksl kGroup) s1) rfl rfl (vt rfl)) rfl ?_
  refine AOps.cons (op_move (A := fn1 Try.prog kGroup kbool f2) rfl rfl (vt rfl)) rfl ?_
  refine AOps.cons (op_call (xs := [.tmp 5, .tmp 6]) (c50 _ _ _ hx3) (Ent.mk Try.func50 rfl rfl) rfl rfl ⟨vt rfl, vt rfl, trivial⟩) rfl ?_
  refine AOps.cons (op_geq rfl rfl (vt rfl) (vk rfl)) rfl ?_
  refine AOps.cons (op_assign (A := rd kbool (decide (x3 ≥ 0))) rfl rfl (vt rfl)) rfl ?_
  refine AOps.nil ?_
  refine AW.ret ?_
  obtain rfl := Option.some.inj h
  exact ret1 Try.results26 rfl (out_tmp rfl)
-- weirbox/weirboxplain.Groups
def F11 (l1 : (List Group)) (many2 : Int) (buckets3 : Int) : Option Bool :=
  (opt (decide ((l1.length : Int) ≤ many2)) (F26 l1 (fun x => F27 x buckets3))).bind fun x5 => some ((decide ((l1.length : Int) ≤ many2)) && (!x5))
theorem c11 (l1 : (List Group)) (many2 : Int) (buckets3 : Int) (r : Bool) (h : F11 l1 many2 buckets3 = some r) : PCon Try.prog 11 [rd (ksl kGroup) l1, rd (kint .i64) many2, rd (kint .i64) buckets3] (rd kbool r) := by
  refine PCon.of (Con.intro0 Try.func11 rfl Try.ntmps11 rfl fun w H => ?_)
  unfold F11 at h
  refine AW.seq ?_
  refine AW.region ?_
  refine AOps.consT rfl (op_box 6 rfl rfl (vt rfl)) ?_
  rintro _ ⟨g4, rfl⟩
  refine AOps.cons (op_assign (A := rd kbool false) rfl rfl vb) rfl ?_
  refine AOps.nil ?_
  refine AW.seq ?_
  refine AW.freezeB 5 6 rfl rfl rfl ?_
  obtain ⟨x5, hx5, h⟩ := bsome h
  refine AW.region ?_
  refine AOps.cons (op_move (A := rd (ksl kGroup) l1) rfl rfl (vt rfl)) rfl ?_
  refine AOps.cons (op_len' rfl rfl sl38 (vt rfl)) rfl ?_
  refine AOps.cons (op_move (A := rd (kint .i64) many2) rfl rfl (vt rfl)) rfl ?_
  refine AOps.cons (op_leq rfl rfl (vt rfl) (vt rfl)) rfl ?_
  refine AOps.cons (op_move (A := rd kbool (decide ((l1.length : Int) ≤ many2))) rfl rfl (vt rfl)) rfl ?_
  refine AOps.consG (OpG.guard rfl rfl rfl rfl rfl fun hq => op_move (A := rd (ksl kGroup) l1) rfl rfl (vt rfl)) ?_
  refine AOps.consG (OpG.guard rfl rfl rfl rfl rfl fun hq => op_fn1 (cs := [.tmp 5]) (CAs := [rp (kint .i64) buckets3]) (fun x => F27 x buckets3) rfl rfl (Ent.mk Try.func27 rfl rfl) ⟨vt rfl, trivial⟩ (fun x y h => c27 _ _ y h)) ?_
  refine AOps.consG (OpG.guard rfl rfl rfl rfl rfl fun hq => op_call (xs := [.tmp 12, .tmp 13]) (c26 _ _ _ (opt_t hx5 hq)) (Ent.mk Try.func26 rfl rfl) rfl rfl ⟨vgt rfl hq, vgt rfl hq, trivial⟩) ?_
  refine AOps.consG (OpG.guard rfl rfl rfl rfl rfl fun hq => op_not rfl rfl (vgt rfl hq)) ?_
  refine AOps.cons (op_all rfl rfl (vt rfl) (vt rfl)) rfl ?_
  refine AOps.cons (op_assign (A := rd kbool ((decide ((l1.length : Int) ≤ many2)) && (!x5))) rfl rfl (vt rfl)) rfl ?_
  refine AOps.nil ?_
  refine AW.ret ?_
  obtain rfl := Option.some.inj h
  exact ret1 Try.results11 rfl (out_tmp rfl)
-- weirbox/exec.Do
def F13 (l1 : (List Group)) (e2 : Env) (acts3 : (List Action)) (h4 : (Vector Wide 24)) : Option ((List Out) × (Vector Wide 24)) :=
  (F29 (⟨e2, l1, [], h4, 0⟩ : exec_run) acts3).bind fun b9 => some (b9.out, b9.header)
theorem c13 (l1 : (List Group)) (e2 : Env) (acts3 : (List Action)) (h4 : (Vector Wide 24)) (r : ((List Out) × (Vector Wide 24))) (h : F13 l1 e2 acts3 h4 = some r) : PCon Try.prog 13 [rd (ksl kGroup) l1, rd kEnv e2, rd (ksl kAction) acts3, rd (karr 24 kWide) h4] (tup2 (rd (ksl kOut) r.1) (rd (karr 24 kWide) r.2)) := by
  refine PCon.of (Con.intro0 Try.func13 rfl Try.ntmps13 rfl fun w H => ?_)
  unfold F13 at h
  refine AW.seq ?_
  refine AW.region ?_
  refine AOps.consT rfl (op_box 6 rfl rfl (vt rfl)) ?_
  rintro _ ⟨g5, rfl⟩
  refine AOps.consT rfl (op_box 8 rfl rfl (vt rfl)) ?_
  rintro _ ⟨g6, rfl⟩
  refine AOps.cons (op_assign (A := rd (ksl kOut) []) rfl rfl vnil) rfl ?_
  refine AOps.consT rfl (op_alloc 10 rfl rfl zr43) ?_
  rintro _ ⟨g7, rfl⟩
  refine AOps.nil ?_
  refine AW.seq ?_
  refine AW.newnil 2322 59 kOut ?_
  refine AW.region ?_
  refine AOps.cons (op_load rfl rfl ty41 (vt rfl) (i := 6) rfl) rfl ?_
  refine AOps.cons (op_move (A := rd (ksl kGroup) l1) rfl rfl (vt rfl)) rfl ?_
  refine AOps.cons (op_load rfl rfl ty43 (vt rfl) (i := 8) rfl) rfl ?_
  refine AOps.cons (op_build (ps := [(0, .tmp 11), (1, .tmp 12), (3, .tmp 13)]) (x := (⟨e2, l1, (.slice none 0 0), h4, 0⟩ : exec_run_o2)) rfl rfl rfl (by kernel_rfl) zrv78_2 ⟨_, _, lexec_run_o2_0, _, by kernel_rfl, (vt rfl), _, _, lexec_run_o2_1, _, by kernel_rfl, (vt rfl), _, _, lexec_run_o2_3, _, by kernel_rfl, (vt rfl), rfl⟩) rfl ?_
  refine AOps.consT rfl (op_box 16 rfl rfl (vt rfl)) ?_
  rintro _ ⟨g8, rfl⟩
  refine AOps.cons (op_assign (A := ptrL g8 (Lens.id kexec_run_o2)) rfl rfl (vt rfl)) rfl ?_
  refine AOps.nil ?_
  refine AW.seq ?_
  obtain ⟨b9, hb9, h⟩ := bsome h
  refine AW.region ?_
  refine AOps.cons (op_move (A := ptrL g8 (Lens.id kexec_run_o2)) rfl rfl (vt rfl)) rfl ?_
  refine AOps.cons (op_move (A := rd (ksl kAction) acts3) rfl rfl (vt rfl)) rfl ?_
  refine AOps.packF 16 2322 (fun v => (⟨e2, l1, v, h4, 0⟩ : exec_run_o2)) (by decide) rfl rfl ?_
  refine AOps.consT rfl (op_callR 16 (xs := [.tmp 16, .tmp 17]) (c29 _ _ _ _ hb9) (Ent.mk Try.func29 rfl rfl) rfl rfl ⟨vt rfl, vt rfl, trivial⟩ rfl) ?_
  rintro _ ⟨_u, rfl⟩
  refine AOps.unboxF 16 2322 (by decide) rfl rfl fun v10 => ?_
  refine AOps.nil ?_
  refine AW.seq ?_
  refine AW.regionAny [⟨[10], [19], [], []⟩, ⟨[19], [20], [], []⟩, ⟨[20], [21], [], []⟩, ⟨[21], [22], [16], []⟩, ⟨[10], [23], [], []⟩, ⟨[23], [24], [], []⟩, ⟨[24], [25], [], []⟩, ⟨[25], [26], [16], []⟩, ⟨[22], [8], [], []⟩, ⟨[9, 26], [], [10], [10]⟩] mixed (by kernel_rfl) ?_
  refine SeqA.cons (loc [10] [] rfl rfl fun S hs hr => op_move (A := ptrL g8 (Lens.id kexec_run_o2)) rfl rfl (vt ((hs 10 rfl).trans rfl))) ⟨rfl, rfl, rfl, rfl⟩ ?_
  refine SeqA.cons (loc [19] [] rfl rfl fun S hs hr => op_nilCheck rfl rfl (vt ((hs 19 rfl).trans rfl))) ⟨rfl, rfl, rfl, rfl⟩ ?_
  refine SeqA.cons (loc [20] [] rfl rfl fun S hs hr => op_field lexec_run_o2_2 rfl rfl flv78_2_2 (vt ((hs 20 rfl).trans rfl))) ⟨rfl, rfl, rfl, rfl⟩ ?_
  refine SeqA.cons (loc [21] [16] rfl rfl fun S hs hr => op_loadv v10 rfl rfl tyr46 (vt ((hs 21 rfl).trans rfl)) (i := 16) ((hr 16 rfl).trans rfl) rfl) ⟨rfl, rfl, rfl, rfl⟩ ?_
  refine SeqA.cons (loc [10] [] rfl rfl fun S hs hr => op_move (A := ptrL g8 (Lens.id kexec_run_o2)) rfl rfl (vt ((hs 10 rfl).trans rfl))) ⟨rfl, rfl, rfl, rfl⟩ ?_
  refine SeqA.cons (loc [23] [] rfl rfl fun S hs hr => op_nilCheck rfl rfl (vt ((hs 23 rfl).trans rfl))) ⟨rfl, rfl, rfl, rfl⟩ ?_
  refine SeqA.cons (loc [24] [] rfl rfl fun S hs hr => op_field lexec_run_o2_3 rfl rfl flv78_3_2 (vt ((hs 24 rfl).trans rfl))) ⟨rfl, rfl, rfl, rfl⟩ ?_
  refine SeqA.cons (loc [25] [16] rfl rfl fun S hs hr => op_load rfl rfl ty43 (vt ((hs 25 rfl).trans rfl)) (i := 16) ((hr 16 rfl).trans rfl)) ⟨rfl, rfl, rfl, rfl⟩ ?_
  refine SeqA.cons (loc [22] [] rfl rfl fun S hs hr => op_assign (A := raw v10) rfl rfl (vt ((hs 22 rfl).trans rfl))) ⟨rfl, rfl, rfl, rfl⟩ ?_
  refine SeqA.cons (locr [9, 26] [10] rfl fun S hs hr => op_store rfl rfl ty43 (vt ((hs 9 rfl).trans rfl)) (i := 10) ((hr 10 rfl).trans rfl) (vt ((hs 26 rfl).trans rfl))) ⟨rfl, rfl, rfl, rfl⟩ ?_
  refine AW.freezes [8, 22] 2322 rfl ⟨rfl, rfl, trivial⟩ rfl ?_
  refine AW.ret ?_
  obtain rfl := Option.some.inj h
  exact ret2 Try.results13 rfl (out_tmp rfl) (out_cell rfl (i := 10) rfl ty43)
-- slices.Equal[[]weirbox/api.Out,weirbox/api.Out]
def F33_l1 (s11 : (List Out)) (s22 : (List Out)) : Nat → Nat → Option Bool
  | 0, i3 => some true
  | m4 + 1, i3 => (lget s11 (i3 : Int)).bind fun e5 => (lget s22 (i3 : Int)).bind fun e6 => (bif (decide (e5 ≠ e6)) then some false else (F33_l1 s11 s22 m4) (i3 + 1))
def F33 (s11 : (List Out)) (s22 : (List Out)) : Option Bool :=
  (bif (decide ((s11.length : Int) ≠ (s22.length : Int))) then some false else F33_l1 s11 s22 ((s11.length : Int) : Int).toNat 0)
theorem c33 (s11 : (List Out)) (s22 : (List Out)) (r : Bool) (h : F33 s11 s22 = some r) : PCon Try.prog 33 [rd (ksl kOut) s11, rd (ksl kOut) s22] (rd kbool r) := by
  refine PCon.of (Con.intro0 Try.func33 rfl Try.ntmps33 rfl fun w H => ?_)
  unfold F33 at h
  refine AW.seq ?_
  refine AW.region ?_
  refine AOps.cons (op_assign (A := rd kbool false) rfl rfl vb) rfl ?_
  refine AOps.nil ?_
  refine AW.seq ?_
  refine AW.seq ?_
  refine AW.region ?_
  refine AOps.cons (op_move (A := rd (ksl kOut) s11) rfl rfl (vt rfl)) rfl ?_
  refine AOps.cons (op_len' rfl rfl sl46 (vt rfl)) rfl ?_
  refine AOps.cons (op_move (A := rd (ksl kOut) s22) rfl rfl (vt rfl)) rfl ?_
  refine AOps.cons (op_len' rfl rfl sl46 (vt rfl)) rfl ?_
  refine AOps.cons (op_neq rfl rfl (vt rfl) (vt rfl)) rfl ?_
  refine AOps.nil ?_
  refine AW.cond (vt rfl) (fun hc => ?_) (fun hc => ?_)
  · have h := cond_t hc h
    refine AW.seq ?_
    refine AW.region ?_
    refine AOps.cons (op_assign (A := rd kbool false) rfl rfl vb) rfl ?_
    refine AOps.nil ?_
    refine AW.ret ?_
    obtain rfl := Option.some.inj h
    exact ret1 Try.results33 rfl (out_tmp rfl)
  · have h := cond_f hc h
    refine AW.skip ?_
    refine AW.seq ?_
    refine AW.seq ?_
    refine AW.region ?_
    refine AOps.cons (op_move (A := rd (ksl kOut) s11) rfl rfl (vt rfl)) rfl ?_
    refine AOps.cons (op_len' rfl rfl sl46 (vt rfl)) rfl ?_
    refine AOps.cons (op_move (A := rd (kint .i64) 0) rfl rfl (vk rfl)) rfl ?_
    refine AOps.nil ?_
    refine AW.block ?_
    refine AW.loopG (d := []) (ν := Nat × Nat) (fun n => Cnt (s11.length : Int) n.2 n.1 ∧ F33_l1 s11 s22 n.1 n.2 = some r) (fun n => n.1) (fun n => [(0, rd (ksl kOut) s11), (1, rd (ksl kOut) s22), (12, rd (kint .i64) (s11.length : Int)), (13, rd (kint .i64) (n.2 : Int))]) (fun n => []) (((s11.length : Int) : Int).toNat, 0) ⟨Cnt.start _, h⟩ ⟨rfl, ⟨rfl, rfl, rfl, rfl, trivial⟩, trivial⟩ ?_
    rintro ⟨m4, i3⟩ ⟨hsf1, h⟩
    change Cnt (s11.length : Int) i3 m4 at hsf1
    change F33_l1 s11 s22 m4 i3 = some r at h
    change AW _ _ _ ⟨slots [(0, rd (ksl kOut) s11), (1, rd (ksl kOut) s22), (12, rd (kint .i64) (s11.length : Int)), (13, rd (kint .i64) (i3 : Int))], ress [], _⟩
    cases m4 with
    | zero =>
      unfold F33_l1 at h
      refine AW.seq ?_
      refine AW.region ?_
      refine AOps.cons (op_lss rfl rfl (vt rfl) (vt rfl)) rfl ?_
      refine AOps.nil ?_
      refine AW.seq ?_
      refine AW.cond (vt rfl) (fun hc => absurd (of_decide_eq_true hc) hsf1.zero) (fun hc => ?_)
      refine AW.exit ?_
      refine AW.seq ?_
      refine AW.region ?_
      refine AOps.cons (op_assign (A := rd kbool true) rfl rfl vb) rfl ?_
      refine AOps.nil ?_
      refine AW.ret ?_
      obtain rfl := Option.some.inj h
      exact ret1 Try.results33 rfl (out_tmp rfl)
    | succ m4 =>
      unfold F33_l1 at h
      generalize hgo1 : F33_l1 s11 s22 m4 = go1 at h
      refine AW.seq ?_
      refine AW.region ?_
      refine AOps.cons (op_lss rfl rfl (vt rfl) (vt rfl)) rfl ?_
      refine AOps.nil ?_
      refine AW.seq ?_
      refine AW.cond (vt rfl) (fun hc => ?_) (fun hc => absurd hsf1.succ (of_decide_eq_false hc))
      have hlti3 := of_decide_eq_true hc
      refine AW.skip ?_
      refine AW.seq ?_
      refine AW.block ?_
      refine AW.seq ?_
      refine AW.region ?_
      refine AOps.cons (op_move (A := rd (kint .i64) (i3 : Int)) rfl rfl (vt rfl)) rfl ?_
      refine AOps.cons (op_assign (A := rd (kint .i64) (i3 : Int)) rfl rfl (vt rfl)) rfl ?_
      refine AOps.nil ?_
      refine AW.seq ?_
      obtain ⟨e5, he5, h⟩ := bsome h
      obtain ⟨e6, he6, h⟩ := bsome h
      refine AW.regionAny [⟨[0], [16], [], []⟩, ⟨[5], [17], [], []⟩, ⟨[16, 17], [18], [], []⟩, ⟨[18], [19], [], []⟩, ⟨[1], [20], [], []⟩, ⟨[5], [21], [], []⟩, ⟨[20, 21], [22], [], []⟩, ⟨[22], [23], [], []⟩, ⟨[19, 23], [24], [], []⟩] mixed (by kernel_rfl) ?_
      refine SeqA.cons (loc [0] [] rfl rfl fun S hs hr => op_move (A := rd (ksl kOut) s11) rfl rfl (vt ((hs 0 rfl).trans rfl))) ⟨rfl, rfl, rfl, rfl⟩ ?_
      refine SeqA.cons (loc [5] [] rfl rfl fun S hs hr => op_move (A := rd (kint .i64) (i3 : Int)) rfl rfl (vt ((hs 5 rfl).trans rfl))) ⟨rfl, rfl, rfl, rfl⟩ ?_
      refine SeqA.cons (loc [16, 17] [] rfl rfl fun S hs hr => op_indexs' rfl rfl sl46 (vt ((hs 16 rfl).trans rfl)) (vt ((hs 17 rfl).trans rfl)) he5) ⟨rfl, rfl, rfl, rfl⟩ ?_
      refine SeqA.cons (loc [18] [] rfl rfl fun S hs hr => op_loadp rfl rfl ty59 (vt ((hs 18 rfl).trans rfl))) ⟨rfl, rfl, rfl, rfl⟩ ?_
      refine SeqA.cons (loc [1] [] rfl rfl fun S hs hr => op_move (A := rd (ksl kOut) s22) rfl rfl (vt ((hs 1 rfl).trans rfl))) ⟨rfl, rfl, rfl, rfl⟩ ?_
      refine SeqA.cons (loc [5] [] rfl rfl fun S hs hr => op_move (A := rd (kint .i64) (i3 : Int)) rfl rfl (vt ((hs 5 rfl).trans rfl))) ⟨rfl, rfl, rfl, rfl⟩ ?_
      refine SeqA.cons (loc [20, 21] [] rfl rfl fun S hs hr => op_indexs' rfl rfl sl46 (vt ((hs 20 rfl).trans rfl)) (vt ((hs 21 rfl).trans rfl)) he6) ⟨rfl, rfl, rfl, rfl⟩ ?_
      refine SeqA.cons (loc [22] [] rfl rfl fun S hs hr => op_loadp rfl rfl ty59 (vt ((hs 22 rfl).trans rfl))) ⟨rfl, rfl, rfl, rfl⟩ ?_
      refine SeqA.cons (loc [19, 23] [] rfl rfl fun S hs hr => op_neqk rfl rfl eqk59 (by decide) rfl eg59 (vt ((hs 19 rfl).trans rfl)) (vt ((hs 23 rfl).trans rfl))) ⟨rfl, rfl, rfl, rfl⟩ ?_
      refine AW.cond (vt rfl) (fun hc => ?_) (fun hc => ?_)
      · have h := cond_t hc h
        refine AW.seq ?_
        refine AW.region ?_
        refine AOps.cons (op_assign (A := rd kbool false) rfl rfl vb) rfl ?_
        refine AOps.nil ?_
        refine AW.ret ?_
        obtain rfl := Option.some.inj h
        exact ret1 Try.results33 rfl (out_tmp rfl)
      · have h := cond_f hc h
        refine AW.skip ?_
        refine AW.region ?_
        refine AOps.cons (op_incr (t := 12) rfl rfl (vt rfl) (vk rfl) (vt rfl) hlti3) rfl ?_
        refine AOps.cons (op_move (A := rd (kint .i64) ((i3 + 1 : Nat) : Int)) rfl rfl (vt rfl)) rfl ?_
        refine AOps.nil ?_
        subst hgo1
        exact ⟨(m4, i3 + 1), Nat.lt_succ_self _, ⟨hsf1.next, h⟩, ⟨rfl, ⟨rfl, rfl, rfl, rfl, trivial⟩, trivial⟩⟩
end Go.Proofs.Ytokmmcflinnfiab.W
