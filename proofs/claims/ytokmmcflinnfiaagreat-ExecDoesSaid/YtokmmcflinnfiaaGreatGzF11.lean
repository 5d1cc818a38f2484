/- GzF11: a part of the proof. -/
import Derived.Test.YtokmmcflinnfiaaGreatGzF10
set_option linter.unusedVariables false
set_option maxRecDepth 4000
set_option linter.unusedSimpArgs false
namespace Go.Proofs.YtokmmcflinnfiaaGreat.W
open Go Go.Wb
-- weirbox/weirboxref09.Apply
def F48_l1 (r1 : (Vector Tern 24)) : Nat → (Vector Wide 24) → Int → Option (Vector Wide 24)
  | 0, _, _ => none
  | m10 + 1, b8, f9 => (bif (decide (f9 < 24)) then (chk 24 f9).bind fun j11 => (chk 24 f9).bind fun j12 => (F76 (Vector.get b8 j11) ((Vector.get r1 j12).Mask)).bind fun x13 => (chk 24 f9).bind fun j14 => (chk 24 f9).bind fun j15 => (F77 ((Vector.get r1 j14).Value) ((Vector.get r1 j15).Mask)).bind fun x16 => (F75 x13 x16).bind fun x17 => (chk 24 f9).bind fun j18 => (F48_l1 r1 m10) (Vector.set b8 j18.1 x17 j18.2) (IntKind.i64.wrap (f9 + 1)) else some b8)
def F48 (r1 : (Vector Tern 24)) (h2 : (Vector Wide 24)) : Option (Vector Wide 24) :=
  F48_l1 r1 (((24 : Int) - 0).toNat + 1) h2 0
theorem c48 (r1 : (Vector Tern 24)) (h2 : (Vector Wide 24)) (r : (Vector Wide 24)) (h : F48 r1 h2 = some r) : PCon Tryz.prog 48 [rd (karr 24 kTern) r1, rd (karr 24 kWide) h2] (rd (karr 24 kWide) r) := by
  refine PCon.of (Con.intro0 Tryz.func48 rfl Tryz.ntmps48 rfl fun w H => ?_)
  unfold F48 at h
  refine AW.seq ?_
  refine AW.region ?_
  refine AOps.consT rfl (op_box 3 rfl rfl (vt rfl)) ?_
  rintro _ ⟨g3, rfl⟩
  refine AOps.consT rfl (op_box 4 rfl rfl (vt rfl)) ?_
  rintro _ ⟨g4, rfl⟩
  refine AOps.consT rfl (op_alloc 5 rfl rfl zr31) ?_
  rintro _ ⟨g5, rfl⟩
  refine AOps.nil ?_
  refine AW.seq ?_
  refine AW.seq ?_
  refine AW.region ?_
  refine AOps.cons (op_assign (A := rd (kint .i64) 0) rfl rfl (vk rfl)) rfl ?_
  refine AOps.nil ?_
  refine AW.block ?_
  refine AW.loopG (d := []) (ν := Nat × (Vector Wide 24) × Int) (fun n => True ∧ F48_l1 r1 n.1 n.2.1 n.2.2 = some r) (fun n => n.1) (fun n => [(2, ptrL g3 (Lens.id (karr 24 kTern))), (3, ptrL g4 (Lens.id (karr 24 kWide))), (4, ptrL g5 (Lens.id (karr 24 kWide))), (5, rd (kint .i64) n.2.2)]) (fun n => [(3, Blk g3 44 (karr 24 kTern) r1), (4, Blk g4 31 (karr 24 kWide) n.2.1), (5, Blk g5 31 (karr 24 kWide) (Vector.replicate 24 zWide))]) ((((24 : Int) - 0).toNat + 1), h2, 0) ⟨trivial, h⟩ ⟨rfl, ⟨rfl, rfl, rfl, rfl, trivial⟩, ⟨rfl, rfl, rfl, trivial⟩⟩ ?_
  rintro ⟨m10, b8, f9⟩ ⟨hsf1, h⟩
  change True at hsf1
  change F48_l1 r1 m10 b8 f9 = some r at h
  change AW _ _ _ ⟨slots [(2, ptrL g3 (Lens.id (karr 24 kTern))), (3, ptrL g4 (Lens.id (karr 24 kWide))), (4, ptrL g5 (Lens.id (karr 24 kWide))), (5, rd (kint .i64) f9)], ress [(3, Blk g3 44 (karr 24 kTern) r1), (4, Blk g4 31 (karr 24 kWide) b8), (5, Blk g5 31 (karr 24 kWide) (Vector.replicate 24 zWide))], _⟩
  cases m10 with
  | zero => cases h
  | succ m10 =>
    unfold F48_l1 at h
    generalize hgo1 : F48_l1 r1 m10 = go1 at h
    refine AW.seq ?_
    refine AW.seq ?_
    refine AW.region ?_
    refine AOps.cons (op_move (A := rd (kint .i64) f9) rfl rfl (vt rfl)) rfl ?_
    refine AOps.cons (op_lss rfl rfl (vt rfl) (vk rfl)) rfl ?_
    refine AOps.nil ?_
    refine AW.cond (vt rfl) (fun hc => ?_) (fun hc => ?_)
    · have h := cond_t hc h
      refine AW.skip ?_
      refine AW.seq ?_
      refine AW.block ?_
      obtain ⟨j11, hj11, h⟩ := bsome h
      obtain ⟨j12, hj12, h⟩ := bsome h
      obtain ⟨x13, hx13, h⟩ := bsome h
      obtain ⟨j14, hj14, h⟩ := bsome h
      obtain ⟨j15, hj15, h⟩ := bsome h
      obtain ⟨x16, hx16, h⟩ := bsome h
      obtain ⟨x17, hx17, h⟩ := bsome h
      obtain ⟨j18, hj18, h⟩ := bsome h
      refine AW.regionAny [⟨[5], [10], [], []⟩, ⟨[5], [11], [], []⟩, ⟨[3, 11], [12], [], []⟩, ⟨[12], [13], [4], []⟩, ⟨[5], [14], [], []⟩, ⟨[2, 14], [15], [], []⟩, ⟨[15], [16], [], []⟩, ⟨[16], [17], [3], []⟩, ⟨[13, 17], [18], [], []⟩, ⟨[5], [19], [], []⟩, ⟨[2, 19], [20], [], []⟩, ⟨[20], [21], [], []⟩, ⟨[21], [22], [3], []⟩, ⟨[5], [23], [], []⟩, ⟨[2, 23], [24], [], []⟩, ⟨[24], [25], [], []⟩, ⟨[25], [26], [3], []⟩, ⟨[22, 26], [27], [], []⟩, ⟨[18, 27], [28], [], []⟩, ⟨[3, 10], [29], [], []⟩, ⟨[29, 28], [], [4], [4]⟩] mixed (by kernel_rfl) ?_
      refine SeqA.cons (loc [5] [] rfl rfl fun S hs hr => op_move (A := rd (kint .i64) f9) rfl rfl (vt ((hs 5 rfl).trans rfl))) ⟨rfl, rfl, rfl, rfl⟩ ?_
      refine SeqA.cons (loc [5] [] rfl rfl fun S hs hr => op_move (A := rd (kint .i64) f9) rfl rfl (vt ((hs 5 rfl).trans rfl))) ⟨rfl, rfl, rfl, rfl⟩ ?_
      refine SeqA.cons (loc [3, 11] [] rfl rfl fun S hs hr => op_index' rfl rfl ar31 (vt ((hs 3 rfl).trans rfl)) (vt ((hs 11 rfl).trans rfl)) hj11) ⟨rfl, rfl, rfl, rfl⟩ ?_
      refine SeqA.cons (loc [12] [4] rfl rfl fun S hs hr => op_load rfl rfl ty29 (vt ((hs 12 rfl).trans rfl)) (i := 4) ((hr 4 rfl).trans rfl)) ⟨rfl, rfl, rfl, rfl⟩ ?_
      refine SeqA.cons (loc [5] [] rfl rfl fun S hs hr => op_move (A := rd (kint .i64) f9) rfl rfl (vt ((hs 5 rfl).trans rfl))) ⟨rfl, rfl, rfl, rfl⟩ ?_
      refine SeqA.cons (loc [2, 14] [] rfl rfl fun S hs hr => op_index' rfl rfl ar44 (vt ((hs 2 rfl).trans rfl)) (vt ((hs 14 rfl).trans rfl)) hj12) ⟨rfl, rfl, rfl, rfl⟩ ?_
      refine SeqA.cons (loc [15] [] rfl rfl fun S hs hr => op_field lTern_1 rfl rfl fl42_1 (vt ((hs 15 rfl).trans rfl))) ⟨rfl, rfl, rfl, rfl⟩ ?_
      refine SeqA.cons (loc [16] [3] rfl rfl fun S hs hr => op_load rfl rfl ty29 (vt ((hs 16 rfl).trans rfl)) (i := 3) ((hr 3 rfl).trans rfl)) ⟨rfl, rfl, rfl, rfl⟩ ?_
      refine SeqA.cons (loc [13, 17] [] rfl rfl fun S hs hr => op_call (xs := [.tmp 13, .tmp 17]) (c76 _ _ _ hx13) (Ent.mk Tryz.func76 rfl rfl) rfl rfl ⟨vt ((hs 13 rfl).trans rfl), vt ((hs 17 rfl).trans rfl), trivial⟩) ⟨rfl, rfl, rfl, rfl⟩ ?_
      refine SeqA.cons (loc [5] [] rfl rfl fun S hs hr => op_move (A := rd (kint .i64) f9) rfl rfl (vt ((hs 5 rfl).trans rfl))) ⟨rfl, rfl, rfl, rfl⟩ ?_
      refine SeqA.cons (loc [2, 19] [] rfl rfl fun S hs hr => op_index' rfl rfl ar44 (vt ((hs 2 rfl).trans rfl)) (vt ((hs 19 rfl).trans rfl)) hj14) ⟨rfl, rfl, rfl, rfl⟩ ?_
      refine SeqA.cons (loc [20] [] rfl rfl fun S hs hr => op_field lTern_0 rfl rfl fl42_0 (vt ((hs 20 rfl).trans rfl))) ⟨rfl, rfl, rfl, rfl⟩ ?_
      refine SeqA.cons (loc [21] [3] rfl rfl fun S hs hr => op_load rfl rfl ty29 (vt ((hs 21 rfl).trans rfl)) (i := 3) ((hr 3 rfl).trans rfl)) ⟨rfl, rfl, rfl, rfl⟩ ?_
      refine SeqA.cons (loc [5] [] rfl rfl fun S hs hr => op_move (A := rd (kint .i64) f9) rfl rfl (vt ((hs 5 rfl).trans rfl))) ⟨rfl, rfl, rfl, rfl⟩ ?_
      refine SeqA.cons (loc [2, 23] [] rfl rfl fun S hs hr => op_index' rfl rfl ar44 (vt ((hs 2 rfl).trans rfl)) (vt ((hs 23 rfl).trans rfl)) hj15) ⟨rfl, rfl, rfl, rfl⟩ ?_
      refine SeqA.cons (loc [24] [] rfl rfl fun S hs hr => op_field lTern_1 rfl rfl fl42_1 (vt ((hs 24 rfl).trans rfl))) ⟨rfl, rfl, rfl, rfl⟩ ?_
      refine SeqA.cons (loc [25] [3] rfl rfl fun S hs hr => op_load rfl rfl ty29 (vt ((hs 25 rfl).trans rfl)) (i := 3) ((hr 3 rfl).trans rfl)) ⟨rfl, rfl, rfl, rfl⟩ ?_
      refine SeqA.cons (loc [22, 26] [] rfl rfl fun S hs hr => op_call (xs := [.tmp 22, .tmp 26]) (c77 _ _ _ hx16) (Ent.mk Tryz.func77 rfl rfl) rfl rfl ⟨vt ((hs 22 rfl).trans rfl), vt ((hs 26 rfl).trans rfl), trivial⟩) ⟨rfl, rfl, rfl, rfl⟩ ?_
      refine SeqA.cons (loc [18, 27] [] rfl rfl fun S hs hr => op_call (xs := [.tmp 18, .tmp 27]) (c75 _ _ _ hx17) (Ent.mk Tryz.func75 rfl rfl) rfl rfl ⟨vt ((hs 18 rfl).trans rfl), vt ((hs 27 rfl).trans rfl), trivial⟩) ⟨rfl, rfl, rfl, rfl⟩ ?_
      refine SeqA.cons (loc [3, 10] [] rfl rfl fun S hs hr => op_index' rfl rfl ar31 (vt ((hs 3 rfl).trans rfl)) (vt ((hs 10 rfl).trans rfl)) hj18) ⟨rfl, rfl, rfl, rfl⟩ ?_
      refine SeqA.cons (locr [29, 28] [4] rfl fun S hs hr => op_store rfl rfl ty29 (vt ((hs 29 rfl).trans rfl)) (i := 4) ((hr 4 rfl).trans rfl) (vt ((hs 28 rfl).trans rfl))) ⟨rfl, rfl, rfl, rfl⟩ ?_
      refine AW.region ?_
      refine AOps.cons (op_move (A := rd (kint .i64) f9) rfl rfl (vt rfl)) rfl ?_
      refine AOps.cons (op_add rfl rfl (vt rfl) (vk rfl)) rfl ?_
      refine AOps.cons (op_assign (A := rd (kint .i64) (IntKind.i64.wrap (f9 + 1))) rfl rfl (vt rfl)) rfl ?_
      refine AOps.nil ?_
      subst hgo1
      exact ⟨(m10, (Vector.set b8 j18.1 x17 j18.2), (IntKind.i64.wrap (f9 + 1))), Nat.lt_succ_self _, ⟨trivial, h⟩, ⟨rfl, ⟨rfl, rfl, rfl, rfl, trivial⟩, ⟨rfl, rfl, rfl, trivial⟩⟩⟩
    · have h := cond_f hc h
      refine AW.exit ?_
      refine AW.seq ?_
      refine AW.region ?_
      refine AOps.cons (op_load rfl rfl ty31 (vt rfl) (i := 4) rfl) rfl ?_
      refine AOps.cons (op_store rfl rfl ty31 (vt rfl) (i := 5) rfl (vt rfl)) rfl ?_
      refine AOps.nil ?_
      refine AW.ret ?_
      obtain rfl := Option.some.inj h
      exact ret1 Tryz.results48 rfl (out_cell rfl (i := 5) rfl ty31)
-- weirbox/weirboxref30.deep
def F30s_j2 (l15 : (List Out)) (go1 : (Vector Wide 24) → (List Out) → Int → Option ((List Out) × (Vector Wide 24))) (b14 : (Vector Wide 24)) (i17 : Int) (b22 : Out) : Option ((List Out) × (Vector Wide 24)) :=
  (appd l15 [b22]).bind fun l23 => go1 b14 l23 (IntKind.i64.wrap (i17 + 1))
def F30s_l1 (acts3 : (List Action)) (R32 : ((List Group) → Env → Int → (Vector Wide 24) → Int → Option (List Out))) (l1 : (List Group)) (e2 : Env) (depth5 : Int) : Nat → (Vector Wide 24) → (List Out) → Int → Option ((List Out) × (Vector Wide 24))
  | 0, _, _, _ => none
  | m18 + 1, b14, l15, i17 => (bif (decide (i17 < (acts3.length : Int))) then (lget acts3 i17).bind fun e19 => (bif (decide (e19.Kind = 0)) then (lget acts3 i17).bind fun e20 => (bif (decide (((⟨e20.Port, 0, b14⟩ : Out).Port) = 4294967293)) then (lget acts3 i17).bind fun e25 => F30s_j2 l15 (F30s_l1 acts3 R32 l1 e2 depth5 m18) b14 i17 { (⟨e20.Port, 0, b14⟩ : Out) with Max := e25.Max } else F30s_j2 l15 (F30s_l1 acts3 R32 l1 e2 depth5 m18) b14 i17 (⟨e20.Port, 0, b14⟩ : Out)) else (bif (decide (e19.Kind = 22)) then (lget acts3 i17).bind fun e26 => (R32 l1 e2 e26.Group b14 (IntKind.i64.wrap (depth5 + 1))).bind fun x27 => (appd l15 x27).bind fun l28 => (F30s_l1 acts3 R32 l1 e2 depth5 m18) b14 l28 (IntKind.i64.wrap (i17 + 1)) else (lget acts3 i17).bind fun e30 => (F52 e30).bind fun x31 => (F48 x31 b14).bind fun x32 => (F30s_l1 acts3 R32 l1 e2 depth5 m18) x32 l15 (IntKind.i64.wrap (i17 + 1)))) else some (l15, b14))
def F30s (R30 : ((List Group) → Env → (List Action) → (Vector Wide 24) → Int → Option ((List Out) × (Vector Wide 24)))) (R32 : ((List Group) → Env → Int → (Vector Wide 24) → Int → Option (List Out))) (l1 : (List Group)) (e2 : Env) (acts3 : (List Action)) (h4 : (Vector Wide 24)) (depth5 : Int) : Option ((List Out) × (Vector Wide 24)) :=
  F30s_l1 acts3 R32 l1 e2 depth5 ((((acts3.length : Int) : Int) - 0).toNat + 1) h4 [] 0
theorem c30s (R30 : ((List Group) → Env → (List Action) → (Vector Wide 24) → Int → Option ((List Out) × (Vector Wide 24)))) (hR30 : ∀ (l1 : (List Group)) (e2 : Env) (acts3 : (List Action)) (h4 : (Vector Wide 24)) (depth5 : Int) (r : ((List Out) × (Vector Wide 24))), R30 l1 e2 acts3 h4 depth5 = some r → PCon Tryz.prog 30 [rd (ksl kGroup) l1, rd kEnv e2, rd (ksl kAction) acts3, rd (karr 24 kWide) h4, rd (kint .i64) depth5] (tup2 (rd (ksl kOut) r.1) (rd (karr 24 kWide) r.2))) (R32 : ((List Group) → Env → Int → (Vector Wide 24) → Int → Option (List Out))) (hR32 : ∀ (l1 : (List Group)) (e2 : Env) (id3 : Int) (h4 : (Vector Wide 24)) (depth5 : Int) (r : (List Out)), R32 l1 e2 id3 h4 depth5 = some r → PCon Tryz.prog 32 [rd (ksl kGroup) l1, rd kEnv e2, rd (kint .i64) id3, rd (karr 24 kWide) h4, rd (kint .i64) depth5] (rd (ksl kOut) r)) (l1 : (List Group)) (e2 : Env) (acts3 : (List Action)) (h4 : (Vector Wide 24)) (depth5 : Int) (r : ((List Out) × (Vector Wide 24))) (h : F30s R30 R32 l1 e2 acts3 h4 depth5 = some r) : PCon Tryz.prog 30 [rd (ksl kGroup) l1, rd kEnv e2, rd (ksl kAction) acts3, rd (karr 24 kWide) h4, rd (kint .i64) depth5] (tup2 (rd (ksl kOut) r.1) (rd (karr 24 kWide) r.2)) := by
  refine PCon.of (Con.intro0 Tryz.func30 rfl Tryz.ntmps30 rfl fun w H => ?_)
  unfold F30s at h
  refine AW.seq ?_
  refine AW.region ?_
  refine AOps.consT rfl (op_box 7 rfl rfl (vt rfl)) ?_
  rintro _ ⟨g6, rfl⟩
  refine AOps.consT rfl (op_box 9 rfl rfl (vt rfl)) ?_
  rintro _ ⟨g7, rfl⟩
  refine AOps.cons (op_assign (A := rd (ksl kOut) []) rfl rfl vnil) rfl ?_
  refine AOps.consT rfl (op_alloc 12 rfl rfl zr31) ?_
  rintro _ ⟨g8, rfl⟩
  refine AOps.nil ?_
  refine AW.seq ?_
  refine AW.region ?_
  refine AOps.consT rfl (op_buildSlice 1001 (ps := []) (l := []) rfl rfl sl34 zr69 rfl rfl rfl rfl) ?_
  rintro _ ⟨v9, rfl⟩
  refine AOps.cons (op_assign (A := raw v9) rfl rfl (vt rfl)) rfl ?_
  refine AOps.nil ?_
  refine AW.seq ?_
  refine AW.seq ?_
  refine AW.region ?_
  refine AOps.cons (op_assign (A := rd (kint .i64) 0) rfl rfl (vk rfl)) rfl ?_
  refine AOps.nil ?_
  refine AW.block ?_
  refine AW.loopG (d := []) (ν := Nat × (Vector Wide 24) × (List Out) × Int × Value) (fun n => True ∧ F30s_l1 acts3 R32 l1 e2 depth5 n.1 n.2.1 n.2.2.1 n.2.2.2.1 = some r) (fun n => n.1) (fun n => [(0, rd (ksl kGroup) l1), (2, rd (ksl kAction) acts3), (4, rd (kint .i64) depth5), (6, ptrL g6 (Lens.id kEnv)), (8, ptrL g7 (Lens.id (karr 24 kWide))), (11, ptrL g8 (Lens.id (karr 24 kWide))), (12, raw n.2.2.2.2), (13, rd (kint .i64) n.2.2.2.1)]) (fun n => [(7, Blk g6 25 kEnv e2), (9, Blk g7 31 (karr 24 kWide) n.2.1), (12, Blk g8 31 (karr 24 kWide) (Vector.replicate 24 zWide)), (1001, Row n.2.2.2.2 69 kOut n.2.2.1)]) (((((acts3.length : Int) : Int) - 0).toNat + 1), h4, [], 0, v9) ⟨trivial, h⟩ ⟨rfl, ⟨rfl, rfl, rfl, rfl, rfl, rfl, rfl, rfl, trivial⟩, ⟨rfl, rfl, rfl, rfl, trivial⟩⟩ ?_
  rintro ⟨m18, b14, l15, i17, v16⟩ ⟨hsf1, h⟩
  change True at hsf1
  change F30s_l1 acts3 R32 l1 e2 depth5 m18 b14 l15 i17 = some r at h
  change AW _ _ _ ⟨slots [(0, rd (ksl kGroup) l1), (2, rd (ksl kAction) acts3), (4, rd (kint .i64) depth5), (6, ptrL g6 (Lens.id kEnv)), (8, ptrL g7 (Lens.id (karr 24 kWide))), (11, ptrL g8 (Lens.id (karr 24 kWide))), (12, raw v16), (13, rd (kint .i64) i17)], ress [(7, Blk g6 25 kEnv e2), (9, Blk g7 31 (karr 24 kWide) b14), (12, Blk g8 31 (karr 24 kWide) (Vector.replicate 24 zWide)), (1001, Row v16 69 kOut l15)], _⟩
  cases m18 with
  | zero => cases h
  | succ m18 =>
    unfold F30s_l1 at h
    generalize hgo1 : F30s_l1 acts3 R32 l1 e2 depth5 m18 = go1 at h
    refine AW.seq ?_
    refine AW.seq ?_
    refine AW.region ?_
    refine AOps.cons (op_move (A := rd (kint .i64) i17) rfl rfl (vt rfl)) rfl ?_
    refine AOps.cons (op_move (A := rd (ksl kAction) acts3) rfl rfl (vt rfl)) rfl ?_
    refine AOps.cons (op_len' rfl rfl sl26 (vt rfl)) rfl ?_
    refine AOps.cons (op_lss rfl rfl (vt rfl) (vt rfl)) rfl ?_
    refine AOps.nil ?_
    refine AW.cond (vt rfl) (fun hc => ?_) (fun hc => ?_)
    · have h := cond_t hc h
      refine AW.skip ?_
      refine AW.seq ?_
      refine AW.block ?_
      refine AW.seq ?_
      obtain ⟨e19, he19, h⟩ := bsome h
      refine AW.region ?_
      refine AOps.cons (op_move (A := rd (ksl kAction) acts3) rfl rfl (vt rfl)) rfl ?_
      refine AOps.cons (op_move (A := rd (kint .i64) i17) rfl rfl (vt rfl)) rfl ?_
      refine AOps.cons (op_indexs' rfl rfl sl26 (vt rfl) (vt rfl) he19) rfl ?_
      refine AOps.cons (op_fieldp lAction_0 rfl rfl fl62_0 (vt rfl)) rfl ?_
      refine AOps.cons (op_loadp rfl rfl ty3 (vt rfl)) rfl ?_
      refine AOps.nil ?_
      refine AW.block ?_
      refine AW.seq ?_
      refine AW.region ?_
      refine AOps.cons (op_eql rfl rfl (vt rfl) (vk rfl)) rfl ?_
      refine AOps.cons (op_assign (A := rd kbool (decide (e19.Kind = 0))) rfl rfl (vt rfl)) rfl ?_
      refine AOps.nil ?_
      refine AW.cond (vt rfl) (fun hc => ?_) (fun hc => ?_)
      · have h := cond_t hc h
        refine AW.seq ?_
        obtain ⟨e20, he20, h⟩ := bsome h
        refine AW.regionAny [⟨[2], [36], [], []⟩, ⟨[13], [37], [], []⟩, ⟨[36, 37], [38], [], []⟩, ⟨[38], [39], [], []⟩, ⟨[39], [40], [], []⟩, ⟨[8], [41], [9], []⟩, ⟨[40, 41], [42], [], []⟩, ⟨[], [14], [], []⟩, ⟨[14, 42], [14], [], []⟩] mixed (by kernel_rfl) ?_
        refine SeqA.cons (loc [2] [] rfl rfl fun S hs hr => op_move (A := rd (ksl kAction) acts3) rfl rfl (vt ((hs 2 rfl).trans rfl))) ⟨rfl, rfl, rfl, rfl⟩ ?_
        refine SeqA.cons (loc [13] [] rfl rfl fun S hs hr => op_move (A := rd (kint .i64) i17) rfl rfl (vt ((hs 13 rfl).trans rfl))) ⟨rfl, rfl, rfl, rfl⟩ ?_
        refine SeqA.cons (loc [36, 37] [] rfl rfl fun S hs hr => op_indexs' rfl rfl sl26 (vt ((hs 36 rfl).trans rfl)) (vt ((hs 37 rfl).trans rfl)) he20) ⟨rfl, rfl, rfl, rfl⟩ ?_
        refine SeqA.cons (loc [38] [] rfl rfl fun S hs hr => op_fieldp lAction_1 rfl rfl fl62_1 (vt ((hs 38 rfl).trans rfl))) ⟨rfl, rfl, rfl, rfl⟩ ?_
        refine SeqA.cons (loc [39] [] rfl rfl fun S hs hr => op_loadp rfl rfl ty3 (vt ((hs 39 rfl).trans rfl))) ⟨rfl, rfl, rfl, rfl⟩ ?_
        refine SeqA.cons (loc [8] [9] rfl rfl fun S hs hr => op_load rfl rfl ty31 (vt ((hs 8 rfl).trans rfl)) (i := 9) ((hr 9 rfl).trans rfl)) ⟨rfl, rfl, rfl, rfl⟩ ?_
        refine SeqA.cons (loc [40, 41] [] rfl rfl fun S hs hr => op_build (ps := [(0, .tmp 40), (2, .tmp 41)]) (x := (⟨e20.Port, 0, b14⟩ : Out)) rfl rfl rfl (by kernel_rfl) zr69 ⟨_, _, lOut_0, _, by kernel_rfl, (vt ((hs 40 rfl).trans rfl)), _, _, lOut_2, _, by kernel_rfl, (vt ((hs 41 rfl).trans rfl)), rfl⟩) ⟨rfl, rfl, rfl, rfl⟩ ?_
        refine SeqA.cons (locs (us := [(14, ownP 69 kOut zOut)]) (ur := []) [] [] rfl fun S hs hr => op_allocO rfl rfl rfl zr69) ⟨rfl, rfl, rfl, rfl⟩ ?_
        refine SeqA.cons (locs (us := [(14, ownP 69 kOut (⟨e20.Port, 0, b14⟩ : Out))]) (ur := []) [14, 42] [] rfl fun S hs hr => op_storeO rfl rfl ty69 ((hs 14 rfl).trans rfl) (vt ((hs 42 rfl).trans rfl))) ⟨rfl, rfl, rfl, rfl⟩ ?_
        refine AW.unpackP 14 15 rfl rfl fun g21 => ?_
        refine AW.join (d := []) (ν := Out) (fun n => F30s_j2 l15 go1 b14 i17 n = some r) (fun n => [(0, rd (ksl kGroup) l1), (2, rd (ksl kAction) acts3), (4, rd (kint .i64) depth5), (6, ptrL g6 (Lens.id kEnv)), (8, ptrL g7 (Lens.id (karr 24 kWide))), (11, ptrL g8 (Lens.id (karr 24 kWide))), (12, raw v16), (13, rd (kint .i64) i17), (14, ptrL g21 (Lens.id kOut))]) (fun n => [(7, Blk g6 25 kEnv e2), (9, Blk g7 31 (karr 24 kWide) b14), (12, Blk g8 31 (karr 24 kWide) (Vector.replicate 24 zWide)), (15, Blk g21 69 kOut n), (1001, Row v16 69 kOut l15)]) ?hx ?hy
        case hy =>
          intro b22 h
          unfold F30s_j2 at h
          change AW _ _ _ ⟨slots [(0, rd (ksl kGroup) l1), (2, rd (ksl kAction) acts3), (4, rd (kint .i64) depth5), (6, ptrL g6 (Lens.id kEnv)), (8, ptrL g7 (Lens.id (karr 24 kWide))), (11, ptrL g8 (Lens.id (karr 24 kWide))), (12, raw v16), (13, rd (kint .i64) i17), (14, ptrL g21 (Lens.id kOut))], ress [(7, Blk g6 25 kEnv e2), (9, Blk g7 31 (karr 24 kWide) b14), (12, Blk g8 31 (karr 24 kWide) (Vector.replicate 24 zWide)), (15, Blk g21 69 kOut b22), (1001, Row v16 69 kOut l15)], _⟩
          obtain ⟨l23, hl23, h⟩ := bsome h
          refine AW.region ?_
          refine AOps.cons (op_move (A := raw v16) rfl rfl (vt rfl)) rfl ?_
          refine AOps.cons (op_load rfl rfl ty69 (vt rfl) (i := 15) rfl) rfl ?_
          refine AOps.cons (op_buildSliceR (ps := [(0, .tmp 53)]) (l := [b22]) rfl rfl sl34 zr69 rfl rfl ⟨_, _, Lens.idx 1 kOut 0 (by decide), _, rfl, (vt rfl), rfl⟩ rfl) rfl ?_
          refine AOps.consT rfl (op_append' 1001 hl23 rfl rfl el34 (vt rfl) rfl (vt rfl)) ?_
          rintro _ ⟨v24, rfl⟩
          refine AOps.cons (op_assign (A := raw v24) rfl rfl (vt rfl)) rfl ?_
          refine AOps.nil ?_
          refine AW.region ?_
          refine AOps.cons (op_move (A := rd (kint .i64) i17) rfl rfl (vt rfl)) rfl ?_
          refine AOps.cons (op_add rfl rfl (vt rfl) (vk rfl)) rfl ?_
          refine AOps.cons (op_assign (A := rd (kint .i64) (IntKind.i64.wrap (i17 + 1))) rfl rfl (vt rfl)) rfl ?_
          refine AOps.nil ?_
          subst hgo1
          exact ⟨(m18, b14, l23, (IntKind.i64.wrap (i17 + 1)), v24), Nat.lt_succ_self _, ⟨trivial, h⟩, ⟨rfl, ⟨rfl, rfl, rfl, rfl, rfl, rfl, rfl, rfl, trivial⟩, ⟨rfl, rfl, rfl, rfl, trivial⟩⟩⟩
        case hx =>
          refine AW.seq ?_
          refine AW.region ?_
          refine AOps.cons (op_field lOut_0 rfl rfl fl69_0 (vt rfl)) rfl ?_
          refine AOps.cons (op_load rfl rfl ty3 (vt rfl) (i := 15) rfl) rfl ?_
          refine AOps.cons (op_eql rfl rfl (vt rfl) (vk rfl)) rfl ?_
          refine AOps.nil ?_
          refine AW.cond (vt rfl) (fun hc => ?_) (fun hc => ?_)
          · have h := cond_t hc h
            obtain ⟨e25, he25, h⟩ := bsome h
            refine AW.region ?_
            refine AOps.cons (op_move (A := rd (ksl kAction) acts3) rfl rfl (vt rfl)) rfl ?_
            refine AOps.cons (op_move (A := rd (kint .i64) i17) rfl rfl (vt rfl)) rfl ?_
            refine AOps.cons (op_indexs' rfl rfl sl26 (vt rfl) (vt rfl) he25) rfl ?_
            refine AOps.cons (op_fieldp lAction_2 rfl rfl fl62_2 (vt rfl)) rfl ?_
            refine AOps.cons (op_loadp rfl rfl ty3 (vt rfl)) rfl ?_
            refine AOps.cons (op_field lOut_1 rfl rfl fl69_1 (vt rfl)) rfl ?_
            refine AOps.cons (op_store rfl rfl ty3 (vt rfl) (i := 15) rfl (vt rfl)) rfl ?_
            refine AOps.nil ?_
            exact ⟨{ (⟨e20.Port, 0, b14⟩ : Out) with Max := e25.Max }, h, ⟨rfl, ⟨rfl, rfl, rfl, rfl, rfl, rfl, rfl, rfl, rfl, trivial⟩, ⟨rfl, rfl, rfl, rfl, rfl, trivial⟩⟩⟩
          · have h := cond_f hc h
            refine AW.skip ?_
            exact ⟨(⟨e20.Port, 0, b14⟩ : Out), h, ⟨rfl, ⟨rfl, rfl, rfl, rfl, rfl, rfl, rfl, rfl, rfl, trivial⟩, ⟨rfl, rfl, rfl, rfl, rfl, trivial⟩⟩⟩
      · have h := cond_f hc h
        refine AW.seq ?_
        refine AW.region ?_
        refine AOps.cons (op_eql rfl rfl (vt rfl) (vk rfl)) rfl ?_
        refine AOps.cons (op_assign (A := rd kbool (decide (e19.Kind = 22))) rfl rfl (vt rfl)) rfl ?_
        refine AOps.nil ?_
        refine AW.cond (vt rfl) (fun hc => ?_) (fun hc => ?_)
        · have h := cond_t hc h
          obtain ⟨e26, he26, h⟩ := bsome h
          obtain ⟨x27, hx27, h⟩ := bsome h
          obtain ⟨l28, hl28, h⟩ := bsome h
          refine AW.regionAny [⟨[12], [58], [], []⟩, ⟨[0], [59], [], []⟩, ⟨[6], [60], [7], []⟩, ⟨[2], [61], [], []⟩, ⟨[13], [62], [], []⟩, ⟨[61, 62], [63], [], []⟩, ⟨[63], [64], [], []⟩, ⟨[64], [65], [], []⟩, ⟨[8], [66], [9], []⟩, ⟨[4], [67], [], []⟩, ⟨[67], [68], [], []⟩, ⟨[59, 60, 65, 66, 68], [69], [], []⟩, ⟨[58, 69], [70], [1001], [1001]⟩, ⟨[70], [70, 12], [1002], []⟩] mixed (by kernel_rfl) ?_
          refine SeqA.cons (loc [12] [] rfl rfl fun S hs hr => op_move (A := raw v16) rfl rfl (vt ((hs 12 rfl).trans rfl))) ⟨rfl, rfl, rfl, rfl⟩ ?_
          refine SeqA.cons (loc [0] [] rfl rfl fun S hs hr => op_move (A := rd (ksl kGroup) l1) rfl rfl (vt ((hs 0 rfl).trans rfl))) ⟨rfl, rfl, rfl, rfl⟩ ?_
          refine SeqA.cons (loc [6] [7] rfl rfl fun S hs hr => op_load rfl rfl ty25 (vt ((hs 6 rfl).trans rfl)) (i := 7) ((hr 7 rfl).trans rfl)) ⟨rfl, rfl, rfl, rfl⟩ ?_
          refine SeqA.cons (loc [2] [] rfl rfl fun S hs hr => op_move (A := rd (ksl kAction) acts3) rfl rfl (vt ((hs 2 rfl).trans rfl))) ⟨rfl, rfl, rfl, rfl⟩ ?_
          refine SeqA.cons (loc [13] [] rfl rfl fun S hs hr => op_move (A := rd (kint .i64) i17) rfl rfl (vt ((hs 13 rfl).trans rfl))) ⟨rfl, rfl, rfl, rfl⟩ ?_
          refine SeqA.cons (loc [61, 62] [] rfl rfl fun S hs hr => op_indexs' rfl rfl sl26 (vt ((hs 61 rfl).trans rfl)) (vt ((hs 62 rfl).trans rfl)) he26) ⟨rfl, rfl, rfl, rfl⟩ ?_
          refine SeqA.cons (loc [63] [] rfl rfl fun S hs hr => op_fieldp lAction_3 rfl rfl fl62_3 (vt ((hs 63 rfl).trans rfl))) ⟨rfl, rfl, rfl, rfl⟩ ?_
          refine SeqA.cons (loc [64] [] rfl rfl fun S hs hr => op_loadp rfl rfl ty3 (vt ((hs 64 rfl).trans rfl))) ⟨rfl, rfl, rfl, rfl⟩ ?_
          refine SeqA.cons (loc [8] [9] rfl rfl fun S hs hr => op_load rfl rfl ty31 (vt ((hs 8 rfl).trans rfl)) (i := 9) ((hr 9 rfl).trans rfl)) ⟨rfl, rfl, rfl, rfl⟩ ?_
          refine SeqA.cons (loc [4] [] rfl rfl fun S hs hr => op_move (A := rd (kint .i64) depth5) rfl rfl (vt ((hs 4 rfl).trans rfl))) ⟨rfl, rfl, rfl, rfl⟩ ?_
          refine SeqA.cons (loc [67] [] rfl rfl fun S hs hr => op_add rfl rfl (vt ((hs 67 rfl).trans rfl)) (vk rfl)) ⟨rfl, rfl, rfl, rfl⟩ ?_
          refine SeqA.cons (loc [59, 60, 65, 66, 68] [] rfl rfl fun S hs hr => op_call (xs := [.tmp 59, .tmp 60, .tmp 65, .tmp 66, .tmp 68]) (hR32 _ _ _ _ _ _ hx27) (Ent.mk Tryz.func32 rfl rfl) rfl rfl ⟨vt ((hs 59 rfl).trans rfl), vt ((hs 60 rfl).trans rfl), vt ((hs 65 rfl).trans rfl), vt ((hs 66 rfl).trans rfl), vt ((hs 68 rfl).trans rfl), trivial⟩) ⟨rfl, rfl, rfl, rfl⟩ ?_
          refine SeqA.cons (locs (us := [(70, ownR 69 kOut l28)]) (ur := [(1001, emp)]) [58, 69] [1001] rfl fun S hs hr => op_appendO 1001 hl28 rfl rfl rfl el34 (vt ((hs 58 rfl).trans rfl)) ((hr 1001 rfl).trans rfl) (vt ((hs 69 rfl).trans rfl))) ⟨rfl, rfl, rfl, rfl⟩ ?_
          refine SeqA.cons (locs (us := [(70, top), (12, ownR 69 kOut l28)]) (ur := []) [70] [1002] rfl fun S hs hr => op_assignO 1002 rfl rfl rfl rfl ((hs 70 rfl).trans rfl) ((hr 1002 rfl).trans rfl)) ⟨rfl, rfl, rfl, rfl⟩ ?_
          refine AW.unpackR 12 1001 rfl rfl fun v29 => ?_
          refine AW.region ?_
          refine AOps.cons (op_move (A := rd (kint .i64) i17) rfl rfl (vt rfl)) rfl ?_
          refine AOps.cons (op_add rfl rfl (vt rfl) (vk rfl)) rfl ?_
          refine AOps.cons (op_assign (A := rd (kint .i64) (IntKind.i64.wrap (i17 + 1))) rfl rfl (vt rfl)) rfl ?_
          refine AOps.nil ?_
          subst hgo1
          exact ⟨(m18, b14, l28, (IntKind.i64.wrap (i17 + 1)), v29), Nat.lt_succ_self _, ⟨trivial, h⟩, ⟨rfl, ⟨rfl, rfl, rfl, rfl, rfl, rfl, rfl, rfl, trivial⟩, ⟨rfl, rfl, rfl, rfl, trivial⟩⟩⟩
        · have h := cond_f hc h
          obtain ⟨e30, he30, h⟩ := bsome h
          obtain ⟨x31, hx31, h⟩ := bsome h
          obtain ⟨x32, hx32, h⟩ := bsome h
          refine AW.regionAny [⟨[2], [27], [], []⟩, ⟨[13], [28], [], []⟩, ⟨[27, 28], [29], [], []⟩, ⟨[29], [30], [], []⟩, ⟨[30], [31], [], []⟩, ⟨[8], [32], [9], []⟩, ⟨[31, 32], [33], [], []⟩, ⟨[8, 33], [], [9], [9]⟩] mixed (by kernel_rfl) ?_
          refine SeqA.cons (loc [2] [] rfl rfl fun S hs hr => op_move (A := rd (ksl kAction) acts3) rfl rfl (vt ((hs 2 rfl).trans rfl))) ⟨rfl, rfl, rfl, rfl⟩ ?_
          refine SeqA.cons (loc [13] [] rfl rfl fun S hs hr => op_move (A := rd (kint .i64) i17) rfl rfl (vt ((hs 13 rfl).trans rfl))) ⟨rfl, rfl, rfl, rfl⟩ ?_
          refine SeqA.cons (loc [27, 28] [] rfl rfl fun S hs hr => op_indexs' rfl rfl sl26 (vt ((hs 27 rfl).trans rfl)) (vt ((hs 28 rfl).trans rfl)) he30) ⟨rfl, rfl, rfl, rfl⟩ ?_
          refine SeqA.cons (loc [29] [] rfl rfl fun S hs hr => op_loadp rfl rfl ty62 (vt ((hs 29 rfl).trans rfl))) ⟨rfl, rfl, rfl, rfl⟩ ?_
          refine SeqA.cons (loc [30] [] rfl rfl fun S hs hr => op_call (xs := [.tmp 30]) (c52 _ _ hx31) (Ent.mk Tryz.func52 rfl rfl) rfl rfl ⟨vt ((hs 30 rfl).trans rfl), trivial⟩) ⟨rfl, rfl, rfl, rfl⟩ ?_
          refine SeqA.cons (loc [8] [9] rfl rfl fun S hs hr => op_load rfl rfl ty31 (vt ((hs 8 rfl).trans rfl)) (i := 9) ((hr 9 rfl).trans rfl)) ⟨rfl, rfl, rfl, rfl⟩ ?_
          refine SeqA.cons (loc [31, 32] [] rfl rfl fun S hs hr => op_call (xs := [.tmp 31, .tmp 32]) (c48 _ _ _ hx32) (Ent.mk Tryz.func48 rfl rfl) rfl rfl ⟨vt ((hs 31 rfl).trans rfl), vt ((hs 32 rfl).trans rfl), trivial⟩) ⟨rfl, rfl, rfl, rfl⟩ ?_
          refine SeqA.cons (locr [8, 33] [9] rfl fun S hs hr => op_store rfl rfl ty31 (vt ((hs 8 rfl).trans rfl)) (i := 9) ((hr 9 rfl).trans rfl) (vt ((hs 33 rfl).trans rfl))) ⟨rfl, rfl, rfl, rfl⟩ ?_
          refine AW.region ?_
          refine AOps.cons (op_move (A := rd (kint .i64) i17) rfl rfl (vt rfl)) rfl ?_
          refine AOps.cons (op_add rfl rfl (vt rfl) (vk rfl)) rfl ?_
          refine AOps.cons (op_assign (A := rd (kint .i64) (IntKind.i64.wrap (i17 + 1))) rfl rfl (vt rfl)) rfl ?_
          refine AOps.nil ?_
          subst hgo1
          exact ⟨(m18, x32, l15, (IntKind.i64.wrap (i17 + 1)), v16), Nat.lt_succ_self _, ⟨trivial, h⟩, ⟨rfl, ⟨rfl, rfl, rfl, rfl, rfl, rfl, rfl, rfl, trivial⟩, ⟨rfl, rfl, rfl, rfl, trivial⟩⟩⟩
    · have h := cond_f hc h
      refine AW.exit ?_
      refine AW.seq ?_
      refine AW.regionAny [⟨[12], [71], [], []⟩, ⟨[8], [72], [9], []⟩, ⟨[71], [10], [], []⟩, ⟨[11, 72], [], [12], [12]⟩] mixed (by kernel_rfl) ?_
      refine SeqA.cons (loc [12] [] rfl rfl fun S hs hr => op_move (A := raw v16) rfl rfl (vt ((hs 12 rfl).trans rfl))) ⟨rfl, rfl, rfl, rfl⟩ ?_
      refine SeqA.cons (loc [8] [9] rfl rfl fun S hs hr => op_load rfl rfl ty31 (vt ((hs 8 rfl).trans rfl)) (i := 9) ((hr 9 rfl).trans rfl)) ⟨rfl, rfl, rfl, rfl⟩ ?_
      refine SeqA.cons (loc [71] [] rfl rfl fun S hs hr => op_assign (A := raw v16) rfl rfl (vt ((hs 71 rfl).trans rfl))) ⟨rfl, rfl, rfl, rfl⟩ ?_
      refine SeqA.cons (locr [11, 72] [12] rfl fun S hs hr => op_store rfl rfl ty31 (vt ((hs 11 rfl).trans rfl)) (i := 12) ((hr 12 rfl).trans rfl) (vt ((hs 72 rfl).trans rfl))) ⟨rfl, rfl, rfl, rfl⟩ ?_
      refine AW.freezes [10, 12, 71] 1001 rfl ⟨rfl, rfl, rfl, trivial⟩ rfl ?_
      refine AW.ret ?_
      obtain rfl := Option.some.inj h
      exact ret2 Tryz.results30 rfl (out_tmp rfl) (out_cell rfl (i := 12) rfl ty31)
-- weirbox/weirboxref30.group
def F32s_l1 (x11 : (List Int)) (x9 : (Group × Bool)) (R30 : ((List Group) → Env → (List Action) → (Vector Wide 24) → Int → Option ((List Out) × (Vector Wide 24)))) (l1 : (List Group)) (e2 : Env) (h4 : (Vector Wide 24)) (depth5 : Int) : Nat → (List Out) → Int → Option (List Out)
  | 0, _, _ => none
  | m18 + 1, l15, i17 => (bif (decide (i17 < (x11.length : Int))) then (lget x11 i17).bind fun e19 => (lget x9.1.Buckets e19).bind fun e20 => (F60 [] e20.Acts).bind fun x21 => (F59 x21).bind fun x22 => (R30 l1 e2 x22 h4 depth5).bind fun x23 => (appd l15 x23.1).bind fun l25 => (F32s_l1 x11 x9 R30 l1 e2 h4 depth5 m18) l25 (IntKind.i64.wrap (i17 + 1)) else some l15)
def F32s (R30 : ((List Group) → Env → (List Action) → (Vector Wide 24) → Int → Option ((List Out) × (Vector Wide 24)))) (R32 : ((List Group) → Env → Int → (Vector Wide 24) → Int → Option (List Out))) (l1 : (List Group)) (e2 : Env) (id3 : Int) (h4 : (Vector Wide 24)) (depth5 : Int) : Option (List Out) :=
  (F57 l1 id3).bind fun x9 => (bif ((!x9.2) || (decide (depth5 > 8))) then some [] else (F58 e2 x9.1).bind fun x11 => F32s_l1 x11 x9 R30 l1 e2 h4 depth5 ((((x11.length : Int) : Int) - 0).toNat + 1) [] 0)
theorem c32s (R30 : ((List Group) → Env → (List Action) → (Vector Wide 24) → Int → Option ((List Out) × (Vector Wide 24)))) (hR30 : ∀ (l1 : (List Group)) (e2 : Env) (acts3 : (List Action)) (h4 : (Vector Wide 24)) (depth5 : Int) (r : ((List Out) × (Vector Wide 24))), R30 l1 e2 acts3 h4 depth5 = some r → PCon Tryz.prog 30 [rd (ksl kGroup) l1, rd kEnv e2, rd (ksl kAction) acts3, rd (karr 24 kWide) h4, rd (kint .i64) depth5] (tup2 (rd (ksl kOut) r.1) (rd (karr 24 kWide) r.2))) (R32 : ((List Group) → Env → Int → (Vector Wide 24) → Int → Option (List Out))) (hR32 : ∀ (l1 : (List Group)) (e2 : Env) (id3 : Int) (h4 : (Vector Wide 24)) (depth5 : Int) (r : (List Out)), R32 l1 e2 id3 h4 depth5 = some r → PCon Tryz.prog 32 [rd (ksl kGroup) l1, rd kEnv e2, rd (kint .i64) id3, rd (karr 24 kWide) h4, rd (kint .i64) depth5] (rd (ksl kOut) r)) (l1 : (List Group)) (e2 : Env) (id3 : Int) (h4 : (Vector Wide 24)) (depth5 : Int) (r : (List Out)) (h : F32s R30 R32 l1 e2 id3 h4 depth5 = some r) : PCon Tryz.prog 32 [rd (ksl kGroup) l1, rd kEnv e2, rd (kint .i64) id3, rd (karr 24 kWide) h4, rd (kint .i64) depth5] (rd (ksl kOut) r) := by
  refine PCon.of (Con.intro0 Tryz.func32 rfl Tryz.ntmps32 rfl fun w H => ?_)
  unfold F32s at h
  refine AW.seq ?_
  refine AW.region ?_
  refine AOps.consT rfl (op_box 7 rfl rfl (vt rfl)) ?_
  rintro _ ⟨g6, rfl⟩
  refine AOps.consT rfl (op_box 9 rfl rfl (vt rfl)) ?_
  rintro _ ⟨g7, rfl⟩
  refine AOps.cons (op_assign (A := rd (ksl kOut) []) rfl rfl vnil) rfl ?_
  refine AOps.nil ?_
  refine AW.seq ?_
  refine AW.region ?_
  refine AOps.consT rfl (op_buildSlice 1001 (ps := []) (l := []) rfl rfl sl34 zr69 rfl rfl rfl rfl) ?_
  rintro _ ⟨v8, rfl⟩
  refine AOps.cons (op_assign (A := raw v8) rfl rfl (vt rfl)) rfl ?_
  refine AOps.nil ?_
  refine AW.seq ?_
  obtain ⟨x9, hx9, h⟩ := bsome h
  refine AW.region ?_
  refine AOps.cons (op_move (A := rd (ksl kGroup) l1) rfl rfl (vt rfl)) rfl ?_
  refine AOps.cons (op_move (A := rd (kint .i64) id3) rfl rfl (vt rfl)) rfl ?_
  refine AOps.cons (op_call (xs := [.tmp 20, .tmp 21]) (c57 _ _ _ hx9) (Ent.mk Tryz.func57 rfl rfl) rfl rfl ⟨vt rfl, vt rfl, trivial⟩) rfl ?_
  refine AOps.cons (op_move (A := tup2 (rd kGroup x9.1) (rd kbool x9.2)) rfl rfl (vt rfl)) rfl ?_
  refine AOps.cons (op_fst rfl rfl (vt rfl)) rfl ?_
  refine AOps.cons (op_snd rfl rfl (vt rfl)) rfl ?_
  refine AOps.consT rfl (op_alloc 13 rfl rfl zr67) ?_
  rintro _ ⟨g10, rfl⟩
  refine AOps.cons (op_store rfl rfl ty67 (vt rfl) (i := 13) rfl (vt rfl)) rfl ?_
  refine AOps.cons (op_assign (A := rd kbool x9.2) rfl rfl (vt rfl)) rfl ?_
  refine AOps.nil ?_
  refine AW.seq ?_
  refine AW.seq ?_
  refine AW.region ?_
  refine AOps.cons (op_move (A := rd kbool x9.2) rfl rfl (vt rfl)) rfl ?_
  refine AOps.cons (op_not rfl rfl (vt rfl)) rfl ?_
  refine AOps.cons (op_move (A := rd kbool (!x9.2)) rfl rfl (vt rfl)) rfl ?_
  refine AOps.consG (OpG.guard rfl rfl rfl rfl rfl fun hq => op_move (A := rd (kint .i64) depth5) rfl rfl (vt rfl)) ?_
  refine AOps.consG (OpG.guard rfl rfl rfl rfl rfl fun hq => op_gtr rfl rfl (vgt rfl hq) (vk rfl)) ?_
  refine AOps.cons (op_any rfl rfl (vt rfl) (vt rfl)) rfl ?_
  refine AOps.nil ?_
  refine AW.cond (vt rfl) (fun hc => ?_) (fun hc => ?_)
  · have h := cond_t hc h
    refine AW.seq ?_
    refine AW.region ?_
    refine AOps.cons (op_move (A := raw v8) rfl rfl (vt rfl)) rfl ?_
    refine AOps.cons (op_assign (A := raw v8) rfl rfl (vt rfl)) rfl ?_
    refine AOps.nil ?_
    refine AW.freezes [10, 11, 18, 31] 1001 rfl ⟨rfl, rfl, rfl, rfl, trivial⟩ rfl ?_
    refine AW.ret ?_
    obtain rfl := Option.some.inj h
    exact ret1 Tryz.results32 rfl (out_tmp rfl)
  · have h := cond_f hc h
    refine AW.skip ?_
    refine AW.seq ?_
    obtain ⟨x11, hx11, h⟩ := bsome h
    refine AW.region ?_
    refine AOps.cons (op_load rfl rfl ty25 (vt rfl) (i := 7) rfl) rfl ?_
    refine AOps.cons (op_load rfl rfl ty67 (vt rfl) (i := 13) rfl) rfl ?_
    refine AOps.cons (op_call (xs := [.tmp 32, .tmp 33]) (c58 _ _ _ hx11) (Ent.mk Tryz.func58 rfl rfl) rfl rfl ⟨vt rfl, vt rfl, trivial⟩) rfl ?_
    refine AOps.cons (op_assign (A := rd (ksl (kint .i64)) x11) rfl rfl (vt rfl)) rfl ?_
    refine AOps.nil ?_
    refine AW.seq ?_
    refine AW.seq ?_
    refine AW.region ?_
    refine AOps.cons (op_assign (A := rd (kint .i64) 0) rfl rfl (vk rfl)) rfl ?_
    refine AOps.nil ?_
    refine AW.block ?_
    refine AW.loopG (d := []) (ν := Nat × (List Out) × Int × Value) (fun n => True ∧ F32s_l1 x11 x9 R30 l1 e2 h4 depth5 n.1 n.2.1 n.2.2.1 = some r) (fun n => n.1) (fun n => [(0, rd (ksl kGroup) l1), (4, rd (kint .i64) depth5), (6, ptrL g6 (Lens.id kEnv)), (8, ptrL g7 (Lens.id (karr 24 kWide))), (11, raw n.2.2.2), (12, ptrL g10 (Lens.id kGroup)), (14, rd (ksl (kint .i64)) x11), (15, rd (kint .i64) n.2.2.1)]) (fun n => [(7, Blk g6 25 kEnv e2), (9, Blk g7 31 (karr 24 kWide) h4), (13, Blk g10 67 kGroup x9.1), (1001, Row n.2.2.2 69 kOut n.2.1)]) (((((x11.length : Int) : Int) - 0).toNat + 1), [], 0, v8) ⟨trivial, h⟩ ⟨rfl, ⟨rfl, rfl, rfl, rfl, rfl, rfl, rfl, rfl, trivial⟩, ⟨rfl, rfl, rfl, rfl, trivial⟩⟩ ?_
    rintro ⟨m18, l15, i17, v16⟩ ⟨hsf1, h⟩
    change True at hsf1
    change F32s_l1 x11 x9 R30 l1 e2 h4 depth5 m18 l15 i17 = some r at h
    change AW _ _ _ ⟨slots [(0, rd (ksl kGroup) l1), (4, rd (kint .i64) depth5), (6, ptrL g6 (Lens.id kEnv)), (8, ptrL g7 (Lens.id (karr 24 kWide))), (11, raw v16), (12, ptrL g10 (Lens.id kGroup)), (14, rd (ksl (kint .i64)) x11), (15, rd (kint .i64) i17)], ress [(7, Blk g6 25 kEnv e2), (9, Blk g7 31 (karr 24 kWide) h4), (13, Blk g10 67 kGroup x9.1), (1001, Row v16 69 kOut l15)], _⟩
    cases m18 with
    | zero => cases h
    | succ m18 =>
      unfold F32s_l1 at h
      generalize hgo1 : F32s_l1 x11 x9 R30 l1 e2 h4 depth5 m18 = go1 at h
      refine AW.seq ?_
      refine AW.seq ?_
      refine AW.region ?_
      refine AOps.cons (op_move (A := rd (kint .i64) i17) rfl rfl (vt rfl)) rfl ?_
      refine AOps.cons (op_move (A := rd (ksl (kint .i64)) x11) rfl rfl (vt rfl)) rfl ?_
      refine AOps.cons (op_len' rfl rfl sl23 (vt rfl)) rfl ?_
      refine AOps.cons (op_lss rfl rfl (vt rfl) (vt rfl)) rfl ?_
      refine AOps.nil ?_
      refine AW.cond (vt rfl) (fun hc => ?_) (fun hc => ?_)
      · have h := cond_t hc h
        refine AW.skip ?_
        refine AW.seq ?_
        refine AW.block ?_
        refine AW.seq ?_
        obtain ⟨e19, he19, h⟩ := bsome h
        obtain ⟨e20, he20, h⟩ := bsome h
        obtain ⟨x21, hx21, h⟩ := bsome h
        obtain ⟨x22, hx22, h⟩ := bsome h
        obtain ⟨x23, hx23, h⟩ := bsome h
        refine AW.regionAny [⟨[0], [42], [], []⟩, ⟨[6], [43], [7], []⟩, ⟨[12], [44], [], []⟩, ⟨[44], [45], [13], []⟩, ⟨[14], [46], [], []⟩, ⟨[15], [47], [], []⟩, ⟨[46, 47], [48], [], []⟩, ⟨[48], [49], [], []⟩, ⟨[45, 49], [50], [], []⟩, ⟨[50], [51], [], []⟩, ⟨[51], [52], [], []⟩, ⟨[52], [53], [], []⟩, ⟨[53], [54], [], []⟩, ⟨[8], [55], [9], []⟩, ⟨[4], [56], [], []⟩, ⟨[42, 43, 54, 55, 56], [57], [], []⟩, ⟨[57], [41], [], []⟩, ⟨[41], [58], [], []⟩, ⟨[41], [59], [], []⟩, ⟨[], [17], [], []⟩, ⟨[58], [16], [], []⟩, ⟨[17, 59], [17], [], []⟩] mixed (by kernel_rfl) ?_
        refine SeqA.cons (loc [0] [] rfl rfl fun S hs hr => op_move (A := rd (ksl kGroup) l1) rfl rfl (vt ((hs 0 rfl).trans rfl))) ⟨rfl, rfl, rfl, rfl⟩ ?_
        refine SeqA.cons (loc [6] [7] rfl rfl fun S hs hr => op_load rfl rfl ty25 (vt ((hs 6 rfl).trans rfl)) (i := 7) ((hr 7 rfl).trans rfl)) ⟨rfl, rfl, rfl, rfl⟩ ?_
        refine SeqA.cons (loc [12] [] rfl rfl fun S hs hr => op_field lGroup_2 rfl rfl fl67_2 (vt ((hs 12 rfl).trans rfl))) ⟨rfl, rfl, rfl, rfl⟩ ?_
        refine SeqA.cons (loc [44] [13] rfl rfl fun S hs hr => op_load rfl rfl ty65 (vt ((hs 44 rfl).trans rfl)) (i := 13) ((hr 13 rfl).trans rfl)) ⟨rfl, rfl, rfl, rfl⟩ ?_
        refine SeqA.cons (loc [14] [] rfl rfl fun S hs hr => op_move (A := rd (ksl (kint .i64)) x11) rfl rfl (vt ((hs 14 rfl).trans rfl))) ⟨rfl, rfl, rfl, rfl⟩ ?_
        refine SeqA.cons (loc [15] [] rfl rfl fun S hs hr => op_move (A := rd (kint .i64) i17) rfl rfl (vt ((hs 15 rfl).trans rfl))) ⟨rfl, rfl, rfl, rfl⟩ ?_
        refine SeqA.cons (loc [46, 47] [] rfl rfl fun S hs hr => op_indexs' rfl rfl sl23 (vt ((hs 46 rfl).trans rfl)) (vt ((hs 47 rfl).trans rfl)) he19) ⟨rfl, rfl, rfl, rfl⟩ ?_
        refine SeqA.cons (loc [48] [] rfl rfl fun S hs hr => op_loadp rfl rfl ty3 (vt ((hs 48 rfl).trans rfl))) ⟨rfl, rfl, rfl, rfl⟩ ?_
        refine SeqA.cons (loc [45, 49] [] rfl rfl fun S hs hr => op_indexs' rfl rfl sl65 (vt ((hs 45 rfl).trans rfl)) (vt ((hs 49 rfl).trans rfl)) he20) ⟨rfl, rfl, rfl, rfl⟩ ?_
        refine SeqA.cons (loc [50] [] rfl rfl fun S hs hr => op_fieldp lBucket_3 rfl rfl fl64_3 (vt ((hs 50 rfl).trans rfl))) ⟨rfl, rfl, rfl, rfl⟩ ?_
        refine SeqA.cons (loc [51] [] rfl rfl fun S hs hr => op_loadp rfl rfl ty26 (vt ((hs 51 rfl).trans rfl))) ⟨rfl, rfl, rfl, rfl⟩ ?_
        refine SeqA.cons (loc [52] [] rfl rfl fun S hs hr => op_call (xs := [.const (Value.slice none 0 0), .tmp 52]) (c60 _ _ _ hx21) (Ent.mk Tryz.func60 rfl rfl) rfl rfl ⟨vnil, vt ((hs 52 rfl).trans rfl), trivial⟩) ⟨rfl, rfl, rfl, rfl⟩ ?_
        refine SeqA.cons (loc [53] [] rfl rfl fun S hs hr => op_call (xs := [.tmp 53]) (c59 _ _ hx22) (Ent.mk Tryz.func59 rfl rfl) rfl rfl ⟨vt ((hs 53 rfl).trans rfl), trivial⟩) ⟨rfl, rfl, rfl, rfl⟩ ?_
        refine SeqA.cons (loc [8] [9] rfl rfl fun S hs hr => op_load rfl rfl ty31 (vt ((hs 8 rfl).trans rfl)) (i := 9) ((hr 9 rfl).trans rfl)) ⟨rfl, rfl, rfl, rfl⟩ ?_
        refine SeqA.cons (loc [4] [] rfl rfl fun S hs hr => op_move (A := rd (kint .i64) depth5) rfl rfl (vt ((hs 4 rfl).trans rfl))) ⟨rfl, rfl, rfl, rfl⟩ ?_
        refine SeqA.cons (loc [42, 43, 54, 55, 56] [] rfl rfl fun S hs hr => op_call (xs := [.tmp 42, .tmp 43, .tmp 54, .tmp 55, .tmp 56]) (hR30 _ _ _ _ _ _ hx23) (Ent.mk Tryz.func30 rfl rfl) rfl rfl ⟨vt ((hs 42 rfl).trans rfl), vt ((hs 43 rfl).trans rfl), vt ((hs 54 rfl).trans rfl), vt ((hs 55 rfl).trans rfl), vt ((hs 56 rfl).trans rfl), trivial⟩) ⟨rfl, rfl, rfl, rfl⟩ ?_
        refine SeqA.cons (loc [57] [] rfl rfl fun S hs hr => op_move (A := tup2 (rd (ksl kOut) x23.1) (rd (karr 24 kWide) x23.2)) rfl rfl (vt ((hs 57 rfl).trans rfl))) ⟨rfl, rfl, rfl, rfl⟩ ?_
        refine SeqA.cons (loc [41] [] rfl rfl fun S hs hr => op_fst rfl rfl (vt ((hs 41 rfl).trans rfl))) ⟨rfl, rfl, rfl, rfl⟩ ?_
        refine SeqA.cons (loc [41] [] rfl rfl fun S hs hr => op_snd rfl rfl (vt ((hs 41 rfl).trans rfl))) ⟨rfl, rfl, rfl, rfl⟩ ?_
        refine SeqA.cons (locs (us := [(17, ownP 31 (karr 24 kWide) (Vector.replicate 24 zWide))]) (ur := []) [] [] rfl fun S hs hr => op_allocO rfl rfl rfl zr31) ⟨rfl, rfl, rfl, rfl⟩ ?_
        refine SeqA.cons (loc [58] [] rfl rfl fun S hs hr => op_assign (A := rd (ksl kOut) x23.1) rfl rfl (vt ((hs 58 rfl).trans rfl))) ⟨rfl, rfl, rfl, rfl⟩ ?_
        refine SeqA.cons (locs (us := [(17, ownP 31 (karr 24 kWide) x23.2)]) (ur := []) [17, 59] [] rfl fun S hs hr => op_storeO rfl rfl ty31 ((hs 17 rfl).trans rfl) (vt ((hs 59 rfl).trans rfl))) ⟨rfl, rfl, rfl, rfl⟩ ?_
        refine AW.unpackP 17 18 rfl rfl fun g24 => ?_
        obtain ⟨l25, hl25, h⟩ := bsome h
        refine AW.region ?_
        refine AOps.cons (op_move (A := raw v16) rfl rfl (vt rfl)) rfl ?_
        refine AOps.cons (op_move (A := rd (ksl kOut) x23.1) rfl rfl (vt rfl)) rfl ?_
        refine AOps.consT rfl (op_append' 1001 hl25 rfl rfl el34 (vt rfl) rfl (vt rfl)) ?_
        rintro _ ⟨v26, rfl⟩
        refine AOps.cons (op_assign (A := raw v26) rfl rfl (vt rfl)) rfl ?_
        refine AOps.nil ?_
        refine AW.region ?_
        refine AOps.cons (op_move (A := rd (kint .i64) i17) rfl rfl (vt rfl)) rfl ?_
        refine AOps.cons (op_add rfl rfl (vt rfl) (vk rfl)) rfl ?_
        refine AOps.cons (op_assign (A := rd (kint .i64) (IntKind.i64.wrap (i17 + 1))) rfl rfl (vt rfl)) rfl ?_
        refine AOps.nil ?_
        subst hgo1
        exact ⟨(m18, l25, (IntKind.i64.wrap (i17 + 1)), v26), Nat.lt_succ_self _, ⟨trivial, h⟩, ⟨rfl, ⟨rfl, rfl, rfl, rfl, rfl, rfl, rfl, rfl, trivial⟩, ⟨rfl, rfl, rfl, rfl, trivial⟩⟩⟩
      · have h := cond_f hc h
        refine AW.exit ?_
        refine AW.seq ?_
        refine AW.region ?_
        refine AOps.cons (op_move (A := raw v16) rfl rfl (vt rfl)) rfl ?_
        refine AOps.cons (op_assign (A := raw v16) rfl rfl (vt rfl)) rfl ?_
        refine AOps.nil ?_
        refine AW.freezes [10, 11, 63] 1001 rfl ⟨rfl, rfl, rfl, trivial⟩ rfl ?_
        refine AW.ret ?_
        obtain rfl := Option.some.inj h
        exact ret1 Tryz.results32 rfl (out_tmp rfl)
def FR30_32 : Nat → ((List Group) → Env → (List Action) → (Vector Wide 24) → Int → Option ((List Out) × (Vector Wide 24))) × ((List Group) → Env → Int → (Vector Wide 24) → Int → Option (List Out))
  | 0 => ((fun _ _ _ _ _ => none), (fun _ _ _ _ _ => none))
  | n + 1 => ((F30s (FR30_32 n).1 (FR30_32 n).2), (F32s (FR30_32 n).1 (FR30_32 n).2))
theorem cR30_32 : ∀ n : Nat, (∀ (l1 : (List Group)) (e2 : Env) (acts3 : (List Action)) (h4 : (Vector Wide 24)) (depth5 : Int) (r : ((List Out) × (Vector Wide 24))), (FR30_32 n).1 l1 e2 acts3 h4 depth5 = some r → PCon Tryz.prog 30 [rd (ksl kGroup) l1, rd kEnv e2, rd (ksl kAction) acts3, rd (karr 24 kWide) h4, rd (kint .i64) depth5] (tup2 (rd (ksl kOut) r.1) (rd (karr 24 kWide) r.2))) ∧ (∀ (l1 : (List Group)) (e2 : Env) (id3 : Int) (h4 : (Vector Wide 24)) (depth5 : Int) (r : (List Out)), (FR30_32 n).2 l1 e2 id3 h4 depth5 = some r → PCon Tryz.prog 32 [rd (ksl kGroup) l1, rd kEnv e2, rd (kint .i64) id3, rd (karr 24 kWide) h4, rd (kint .i64) depth5] (rd (ksl kOut) r))
  | 0 => ⟨(by intros; rename_i h; cases h), (by intros; rename_i h; cases h)⟩
  | n + 1 => by
    have ih := cR30_32 n
    exact ⟨(c30s (FR30_32 n).1 ih.1 (FR30_32 n).2 ih.2), (c32s (FR30_32 n).1 ih.1 (FR30_32 n).2 ih.2)⟩
def F30 (l1 : (List Group)) (e2 : Env) (acts3 : (List Action)) (h4 : (Vector Wide 24)) (depth5 : Int) : Option ((List Out) × (Vector Wide 24)) := (FR30_32 fuel0).1 l1 e2 acts3 h4 depth5
theorem c30 : ∀ (l1 : (List Group)) (e2 : Env) (acts3 : (List Action)) (h4 : (Vector Wide 24)) (depth5 : Int) (r : ((List Out) × (Vector Wide 24))), F30 l1 e2 acts3 h4 depth5 = some r → PCon Tryz.prog 30 [rd (ksl kGroup) l1, rd kEnv e2, rd (ksl kAction) acts3, rd (karr 24 kWide) h4, rd (kint .i64) depth5] (tup2 (rd (ksl kOut) r.1) (rd (karr 24 kWide) r.2)) := (cR30_32 fuel0).1
def F32 (l1 : (List Group)) (e2 : Env) (id3 : Int) (h4 : (Vector Wide 24)) (depth5 : Int) : Option (List Out) := (FR30_32 fuel0).2 l1 e2 id3 h4 depth5
theorem c32 : ∀ (l1 : (List Group)) (e2 : Env) (id3 : Int) (h4 : (Vector Wide 24)) (depth5 : Int) (r : (List Out)), F32 l1 e2 id3 h4 depth5 = some r → PCon Tryz.prog 32 [rd (ksl kGroup) l1, rd kEnv e2, rd (kint .i64) id3, rd (karr 24 kWide) h4, rd (kint .i64) depth5] (rd (ksl kOut) r) := (cR30_32 fuel0).2
-- weirbox/weirboxref30.Do
def F9 (l1 : (List Group)) (e2 : Env) (acts3 : (List Action)) (h4 : (Vector Wide 24)) : Option ((List Out) × (Vector Wide 24)) :=
  (F30 l1 e2 acts3 h4 0).bind fun x8 => some (x8.1, x8.2)
theorem c9 (l1 : (List Group)) (e2 : Env) (acts3 : (List Action)) (h4 : (Vector Wide 24)) (r : ((List Out) × (Vector Wide 24))) (h : F9 l1 e2 acts3 h4 = some r) : PCon Tryz.prog 9 [rd (ksl kGroup) l1, rd kEnv e2, rd (ksl kAction) acts3, rd (karr 24 kWide) h4] (tup2 (rd (ksl kOut) r.1) (rd (karr 24 kWide) r.2)) := by
  refine PCon.of (Con.intro0 Tryz.func9 rfl Tryz.ntmps9 rfl fun w H => ?_)
  unfold F9 at h
  refine AW.seq ?_
  refine AW.region ?_
  refine AOps.consT rfl (op_box 6 rfl rfl (vt rfl)) ?_
  rintro _ ⟨g5, rfl⟩
  refine AOps.consT rfl (op_box 8 rfl rfl (vt rfl)) ?_
  rintro _ ⟨g6, rfl⟩
  refine AOps.cons (op_assign (A := rd (ksl kOut) []) rfl rfl vnil) rfl ?_
  refine AOps.consT rfl (op_alloc 10 rfl rfl zr31) ?_
  rintro _ ⟨g7, rfl⟩
  refine AOps.nil ?_
  refine AW.seq ?_
  obtain ⟨x8, hx8, h⟩ := bsome h
  refine AW.region ?_
  refine AOps.cons (op_move (A := rd (ksl kGroup) l1) rfl rfl (vt rfl)) rfl ?_
  refine AOps.cons (op_load rfl rfl ty25 (vt rfl) (i := 6) rfl) rfl ?_
  refine AOps.cons (op_move (A := rd (ksl kAction) acts3) rfl rfl (vt rfl)) rfl ?_
  refine AOps.cons (op_load rfl rfl ty31 (vt rfl) (i := 8) rfl) rfl ?_
  refine AOps.cons (op_call (xs := [.tmp 10, .tmp 11, .tmp 12, .tmp 13, .const (Value.int IntKind.i64 0)]) (c30 _ _ _ _ _ _ hx8) (Ent.mk Tryz.func30 rfl rfl) rfl rfl ⟨vt rfl, vt rfl, vt rfl, vt rfl, vk rfl, trivial⟩) rfl ?_
  refine AOps.cons (op_fst rfl rfl (vt rfl)) rfl ?_
  refine AOps.cons (op_snd rfl rfl (vt rfl)) rfl ?_
  refine AOps.cons (op_assign (A := rd (ksl kOut) x8.1) rfl rfl (vt rfl)) rfl ?_
  refine AOps.cons (op_store rfl rfl ty31 (vt rfl) (i := 10) rfl (vt rfl)) rfl ?_
  refine AOps.nil ?_
  refine AW.ret ?_
  obtain rfl := Option.some.inj h
  exact ret2 Tryz.results9 rfl (out_tmp rfl) (out_cell rfl (i := 10) rfl ty31)
-- weirbox/weirboxref30.Group
def F11 (l1 : (List Group)) (e2 : Env) (id3 : Int) (h4 : (Vector Wide 24)) : Option (List Out) :=
  (F32 l1 e2 id3 h4 1).bind fun x7 => some x7
theorem c11 (l1 : (List Group)) (e2 : Env) (id3 : Int) (h4 : (Vector Wide 24)) (r : (List Out)) (h : F11 l1 e2 id3 h4 = some r) : PCon Tryz.prog 11 [rd (ksl kGroup) l1, rd kEnv e2, rd (kint .i64) id3, rd (karr 24 kWide) h4] (rd (ksl kOut) r) := by
  refine PCon.of (Con.intro0 Tryz.func11 rfl Tryz.ntmps11 rfl fun w H => ?_)
  unfold F11 at h
  refine AW.seq ?_
  refine AW.region ?_
  refine AOps.consT rfl (op_box 6 rfl rfl (vt rfl)) ?_
  rintro _ ⟨g5, rfl⟩
  refine AOps.consT rfl (op_box 8 rfl rfl (vt rfl)) ?_
  rintro _ ⟨g6, rfl⟩
  refine AOps.cons (op_assign (A := rd (ksl kOut) []) rfl rfl vnil) rfl ?_
  refine AOps.nil ?_
  refine AW.seq ?_
  obtain ⟨x7, hx7, h⟩ := bsome h
  refine AW.region ?_
  refine AOps.cons (op_move (A := rd (ksl kGroup) l1) rfl rfl (vt rfl)) rfl ?_
  refine AOps.cons (op_load rfl rfl ty25 (vt rfl) (i := 6) rfl) rfl ?_
  refine AOps.cons (op_move (A := rd (kint .i64) id3) rfl rfl (vt rfl)) rfl ?_
  refine AOps.cons (op_load rfl rfl ty31 (vt rfl) (i := 8) rfl) rfl ?_
  refine AOps.cons (op_call (xs := [.tmp 9, .tmp 10, .tmp 11, .tmp 12, .const (Value.int IntKind.i64 1)]) (c32 _ _ _ _ _ _ hx7) (Ent.mk Tryz.func32 rfl rfl) rfl rfl ⟨vt rfl, vt rfl, vt rfl, vt rfl, vk rfl, trivial⟩) rfl ?_
  refine AOps.cons (op_assign (A := rd (ksl kOut) x7) rfl rfl (vt rfl)) rfl ?_
  refine AOps.nil ?_
  refine AW.ret ?_
  obtain rfl := Option.some.inj h
  exact ret1 Tryz.results11 rfl (out_tmp rfl)
-- weirbox/weirboxref30.Same
def F12_l1 (a1 : (List Out)) (b2 : (List Out)) : Nat → Int → Option Bool
  | 0, _ => none
  | m5 + 1, i4 => (bif (decide (i4 < (a1.length : Int))) then (lget a1 i4).bind fun e6 => (lget b2 i4).bind fun e7 => (opt (!(decide (e6.Port ≠ e7.Port))) (lget a1 i4)).bind fun e8 => (opt (!(decide (e6.Port ≠ e7.Port))) (lget b2 i4)).bind fun e9 => (opt (!((decide (e6.Port ≠ e7.Port)) || (decide (e8.Max ≠ e9.Max)))) (lget a1 i4)).bind fun e10 => (opt (!((decide (e6.Port ≠ e7.Port)) || (decide (e8.Max ≠ e9.Max)))) (lget b2 i4)).bind fun e11 => (bif (((decide (e6.Port ≠ e7.Port)) || (decide (e8.Max ≠ e9.Max))) || (decide (e10.Header ≠ e11.Header))) then some false else (F12_l1 a1 b2 m5) (IntKind.i64.wrap (i4 + 1))) else some true)
def F12 (a1 : (List Out)) (b2 : (List Out)) : Option Bool :=
  (bif (decide ((a1.length : Int) ≠ (b2.length : Int))) then some false else F12_l1 a1 b2 ((((a1.length : Int) : Int) - 0).toNat + 1) 0)
theorem c12 (a1 : (List Out)) (b2 : (List Out)) (r : Bool) (h : F12 a1 b2 = some r) : PCon Tryz.prog 12 [rd (ksl kOut) a1, rd (ksl kOut) b2] (rd kbool r) := by
  refine PCon.of (Con.intro0 Tryz.func12 rfl Tryz.ntmps12 rfl fun w H => ?_)
  unfold F12 at h
  refine AW.seq ?_
  refine AW.region ?_
  refine AOps.cons (op_assign (A := rd kbool false) rfl rfl vb) rfl ?_
  refine AOps.nil ?_
  refine AW.seq ?_
  refine AW.seq ?_
  refine AW.region ?_
  refine AOps.cons (op_move (A := rd (ksl kOut) a1) rfl rfl (vt rfl)) rfl ?_
  refine AOps.cons (op_len' rfl rfl sl34 (vt rfl)) rfl ?_
  refine AOps.cons (op_move (A := rd (ksl kOut) b2) rfl rfl (vt rfl)) rfl ?_
  refine AOps.cons (op_len' rfl rfl sl34 (vt rfl)) rfl ?_
  refine AOps.cons (op_neq rfl rfl (vt rfl) (vt rfl)) rfl ?_
  refine AOps.nil ?_
  refine AW.cond (vt rfl) (fun hc => ?_) (fun hc => ?_)
  · have h := cond_t hc h
    refine AW.seq ?_
    refine AW.region ?_
    refine AOps.cons (op_assign (A := rd kbool false) rfl rfl vb) rfl ?_
    refine AOps.nil ?_
    refine AW.ret ?_
    obtain rfl := Option.some.inj h
    exact ret1 Tryz.results12 rfl (out_tmp rfl)
  · have h := cond_f hc h
    refine AW.skip ?_
    refine AW.seq ?_
    refine AW.seq ?_
    refine AW.region ?_
    refine AOps.cons (op_assign (A := rd (kint .i64) 0) rfl rfl (vk rfl)) rfl ?_
    refine AOps.nil ?_
    refine AW.block ?_
    refine AW.loopG (d := []) (ν := Nat × Int) (fun n => True ∧ F12_l1 a1 b2 n.1 n.2 = some r) (fun n => n.1) (fun n => [(0, rd (ksl kOut) a1), (1, rd (ksl kOut) b2), (5, rd (kint .i64) n.2)]) (fun n => []) (((((a1.length : Int) : Int) - 0).toNat + 1), 0) ⟨trivial, h⟩ ⟨rfl, ⟨rfl, rfl, rfl, trivial⟩, trivial⟩ ?_
    rintro ⟨m5, i4⟩ ⟨hsf1, h⟩
    change True at hsf1
    change F12_l1 a1 b2 m5 i4 = some r at h
    change AW _ _ _ ⟨slots [(0, rd (ksl kOut) a1), (1, rd (ksl kOut) b2), (5, rd (kint .i64) i4)], ress [], _⟩
    cases m5 with
    | zero => cases h
    | succ m5 =>
      unfold F12_l1 at h
      generalize hgo1 : F12_l1 a1 b2 m5 = go1 at h
      refine AW.seq ?_
      refine AW.seq ?_
      refine AW.region ?_
      refine AOps.cons (op_move (A := rd (kint .i64) i4) rfl rfl (vt rfl)) rfl ?_
      refine AOps.cons (op_move (A := rd (ksl kOut) a1) rfl rfl (vt rfl)) rfl ?_
      refine AOps.cons (op_len' rfl rfl sl34 (vt rfl)) rfl ?_
      refine AOps.cons (op_lss rfl rfl (vt rfl) (vt rfl)) rfl ?_
      refine AOps.nil ?_
      refine AW.cond (vt rfl) (fun hc => ?_) (fun hc => ?_)
      · have h := cond_t hc h
        refine AW.skip ?_
        refine AW.seq ?_
        refine AW.block ?_
        refine AW.seq ?_
        obtain ⟨e6, he6, h⟩ := bsome h
        obtain ⟨e7, he7, h⟩ := bsome h
        obtain ⟨e8, he8, h⟩ := bsome h
        obtain ⟨e9, he9, h⟩ := bsome h
        obtain ⟨e10, he10, h⟩ := bsome h
        obtain ⟨e11, he11, h⟩ := bsome h
        refine AW.regionAny [⟨[0], [17], [], []⟩, ⟨[5], [18], [], []⟩, ⟨[17, 18], [19], [], []⟩, ⟨[19], [20], [], []⟩, ⟨[20], [21], [], []⟩, ⟨[1], [22], [], []⟩, ⟨[5], [23], [], []⟩, ⟨[22, 23], [24], [], []⟩, ⟨[24], [25], [], []⟩, ⟨[25], [26], [], []⟩, ⟨[21, 26], [27], [], []⟩, ⟨[27], [28], [], []⟩, ⟨[0, 28], [29], [], []⟩, ⟨[5, 28], [30], [], []⟩, ⟨[29, 30, 28], [31], [], []⟩, ⟨[31, 28], [32], [], []⟩, ⟨[32, 28], [33], [], []⟩, ⟨[1, 28], [34], [], []⟩, ⟨[5, 28], [35], [], []⟩, ⟨[34, 35, 28], [36], [], []⟩, ⟨[36, 28], [37], [], []⟩, ⟨[37, 28], [38], [], []⟩, ⟨[33, 38, 28], [39], [], []⟩, ⟨[39, 28], [40], [], []⟩, ⟨[40], [41], [], []⟩, ⟨[0, 41], [42], [], []⟩, ⟨[5, 41], [43], [], []⟩, ⟨[42, 43, 41], [44], [], []⟩, ⟨[44, 41], [45], [], []⟩, ⟨[45, 41], [46], [], []⟩, ⟨[1, 41], [47], [], []⟩, ⟨[5, 41], [48], [], []⟩, ⟨[47, 48, 41], [49], [], []⟩, ⟨[49, 41], [50], [], []⟩, ⟨[50, 41], [51], [], []⟩, ⟨[46, 51, 41], [52], [], []⟩, ⟨[52, 41], [53], [], []⟩] mixed (by kernel_rfl) ?_
        refine SeqA.cons (loc [0] [] rfl rfl fun S hs hr => op_move (A := rd (ksl kOut) a1) rfl rfl (vt ((hs 0 rfl).trans rfl))) ⟨rfl, rfl, rfl, rfl⟩ ?_
        refine SeqA.cons (loc [5] [] rfl rfl fun S hs hr => op_move (A := rd (kint .i64) i4) rfl rfl (vt ((hs 5 rfl).trans rfl))) ⟨rfl, rfl, rfl, rfl⟩ ?_
        refine SeqA.cons (loc [17, 18] [] rfl rfl fun S hs hr => op_indexs' rfl rfl sl34 (vt ((hs 17 rfl).trans rfl)) (vt ((hs 18 rfl).trans rfl)) he6) ⟨rfl, rfl, rfl, rfl⟩ ?_
        refine SeqA.cons (loc [19] [] rfl rfl fun S hs hr => op_fieldp lOut_0 rfl rfl fl69_0 (vt ((hs 19 rfl).trans rfl))) ⟨rfl, rfl, rfl, rfl⟩ ?_
        refine SeqA.cons (loc [20] [] rfl rfl fun S hs hr => op_loadp rfl rfl ty3 (vt ((hs 20 rfl).trans rfl))) ⟨rfl, rfl, rfl, rfl⟩ ?_
        refine SeqA.cons (loc [1] [] rfl rfl fun S hs hr => op_move (A := rd (ksl kOut) b2) rfl rfl (vt ((hs 1 rfl).trans rfl))) ⟨rfl, rfl, rfl, rfl⟩ ?_
        refine SeqA.cons (loc [5] [] rfl rfl fun S hs hr => op_move (A := rd (kint .i64) i4) rfl rfl (vt ((hs 5 rfl).trans rfl))) ⟨rfl, rfl, rfl, rfl⟩ ?_
        refine SeqA.cons (loc [22, 23] [] rfl rfl fun S hs hr => op_indexs' rfl rfl sl34 (vt ((hs 22 rfl).trans rfl)) (vt ((hs 23 rfl).trans rfl)) he7) ⟨rfl, rfl, rfl, rfl⟩ ?_
        refine SeqA.cons (loc [24] [] rfl rfl fun S hs hr => op_fieldp lOut_0 rfl rfl fl69_0 (vt ((hs 24 rfl).trans rfl))) ⟨rfl, rfl, rfl, rfl⟩ ?_
        refine SeqA.cons (loc [25] [] rfl rfl fun S hs hr => op_loadp rfl rfl ty3 (vt ((hs 25 rfl).trans rfl))) ⟨rfl, rfl, rfl, rfl⟩ ?_
        refine SeqA.cons (loc [21, 26] [] rfl rfl fun S hs hr => op_neq rfl rfl (vt ((hs 21 rfl).trans rfl)) (vt ((hs 26 rfl).trans rfl))) ⟨rfl, rfl, rfl, rfl⟩ ?_
        refine SeqA.cons (loc [27] [] rfl rfl fun S hs hr => op_move (A := rd kbool (decide (e6.Port ≠ e7.Port))) rfl rfl (vt ((hs 27 rfl).trans rfl))) ⟨rfl, rfl, rfl, rfl⟩ ?_
        refine SeqA.cons (locg [0, 28] [] rfl rfl rfl rfl rfl rfl rfl fun hq S hs hr => op_move (A := rd (ksl kOut) a1) rfl rfl (vt ((hs 0 rfl).trans rfl))) ⟨rfl, rfl, rfl, rfl⟩ ?_
        refine SeqA.cons (locg [5, 28] [] rfl rfl rfl rfl rfl rfl rfl fun hq S hs hr => op_move (A := rd (kint .i64) i4) rfl rfl (vt ((hs 5 rfl).trans rfl))) ⟨rfl, rfl, rfl, rfl⟩ ?_
        refine SeqA.cons (locg [29, 30, 28] [] rfl rfl rfl rfl rfl rfl rfl fun hq S hs hr => op_indexs' rfl rfl sl34 (vgt ((hs 29 rfl).trans rfl) hq) (vgt ((hs 30 rfl).trans rfl) hq) (opt_f he8 hq)) ⟨rfl, rfl, rfl, rfl⟩ ?_
        refine SeqA.cons (locg [31, 28] [] rfl rfl rfl rfl rfl rfl rfl fun hq S hs hr => op_fieldp lOut_1 rfl rfl fl69_1 (vgt ((hs 31 rfl).trans rfl) hq)) ⟨rfl, rfl, rfl, rfl⟩ ?_
        refine SeqA.cons (locg [32, 28] [] rfl rfl rfl rfl rfl rfl rfl fun hq S hs hr => op_loadp rfl rfl ty3 (vgt ((hs 32 rfl).trans rfl) hq)) ⟨rfl, rfl, rfl, rfl⟩ ?_
        refine SeqA.cons (locg [1, 28] [] rfl rfl rfl rfl rfl rfl rfl fun hq S hs hr => op_move (A := rd (ksl kOut) b2) rfl rfl (vt ((hs 1 rfl).trans rfl))) ⟨rfl, rfl, rfl, rfl⟩ ?_
        refine SeqA.cons (locg [5, 28] [] rfl rfl rfl rfl rfl rfl rfl fun hq S hs hr => op_move (A := rd (kint .i64) i4) rfl rfl (vt ((hs 5 rfl).trans rfl))) ⟨rfl, rfl, rfl, rfl⟩ ?_
        refine SeqA.cons (locg [34, 35, 28] [] rfl rfl rfl rfl rfl rfl rfl fun hq S hs hr => op_indexs' rfl rfl sl34 (vgt ((hs 34 rfl).trans rfl) hq) (vgt ((hs 35 rfl).trans rfl) hq) (opt_f he9 hq)) ⟨rfl, rfl, rfl, rfl⟩ ?_
        refine SeqA.cons (locg [36, 28] [] rfl rfl rfl rfl rfl rfl rfl fun hq S hs hr => op_fieldp lOut_1 rfl rfl fl69_1 (vgt ((hs 36 rfl).trans rfl) hq)) ⟨rfl, rfl, rfl, rfl⟩ ?_
        refine SeqA.cons (locg [37, 28] [] rfl rfl rfl rfl rfl rfl rfl fun hq S hs hr => op_loadp rfl rfl ty3 (vgt ((hs 37 rfl).trans rfl) hq)) ⟨rfl, rfl, rfl, rfl⟩ ?_
        refine SeqA.cons (locg [33, 38, 28] [] rfl rfl rfl rfl rfl rfl rfl fun hq S hs hr => op_neq rfl rfl (vgt ((hs 33 rfl).trans rfl) hq) (vgt ((hs 38 rfl).trans rfl) hq)) ⟨rfl, rfl, rfl, rfl⟩ ?_
        refine SeqA.cons (loc [39, 28] [] rfl rfl fun S hs hr => op_any rfl rfl (vt ((hs 28 rfl).trans rfl)) (vt ((hs 39 rfl).trans rfl))) ⟨rfl, rfl, rfl, rfl⟩ ?_
        refine SeqA.cons (loc [40] [] rfl rfl fun S hs hr => op_move (A := rd kbool ((decide (e6.Port ≠ e7.Port)) || (decide (e8.Max ≠ e9.Max)))) rfl rfl (vt ((hs 40 rfl).trans rfl))) ⟨rfl, rfl, rfl, rfl⟩ ?_
        refine SeqA.cons (locg [0, 41] [] rfl rfl rfl rfl rfl rfl rfl fun hq S hs hr => op_move (A := rd (ksl kOut) a1) rfl rfl (vt ((hs 0 rfl).trans rfl))) ⟨rfl, rfl, rfl, rfl⟩ ?_
        refine SeqA.cons (locg [5, 41] [] rfl rfl rfl rfl rfl rfl rfl fun hq S hs hr => op_move (A := rd (kint .i64) i4) rfl rfl (vt ((hs 5 rfl).trans rfl))) ⟨rfl, rfl, rfl, rfl⟩ ?_
        refine SeqA.cons (locg [42, 43, 41] [] rfl rfl rfl rfl rfl rfl rfl fun hq S hs hr => op_indexs' rfl rfl sl34 (vgt ((hs 42 rfl).trans rfl) hq) (vgt ((hs 43 rfl).trans rfl) hq) (opt_f he10 hq)) ⟨rfl, rfl, rfl, rfl⟩ ?_
        refine SeqA.cons (locg [44, 41] [] rfl rfl rfl rfl rfl rfl rfl fun hq S hs hr => op_fieldp lOut_2 rfl rfl fl69_2 (vgt ((hs 44 rfl).trans rfl) hq)) ⟨rfl, rfl, rfl, rfl⟩ ?_
        refine SeqA.cons (locg [45, 41] [] rfl rfl rfl rfl rfl rfl rfl fun hq S hs hr => op_loadp rfl rfl ty31 (vgt ((hs 45 rfl).trans rfl) hq)) ⟨rfl, rfl, rfl, rfl⟩ ?_
        refine SeqA.cons (locg [1, 41] [] rfl rfl rfl rfl rfl rfl rfl fun hq S hs hr => op_move (A := rd (ksl kOut) b2) rfl rfl (vt ((hs 1 rfl).trans rfl))) ⟨rfl, rfl, rfl, rfl⟩ ?_
        refine SeqA.cons (locg [5, 41] [] rfl rfl rfl rfl rfl rfl rfl fun hq S hs hr => op_move (A := rd (kint .i64) i4) rfl rfl (vt ((hs 5 rfl).trans rfl))) ⟨rfl, rfl, rfl, rfl⟩ ?_
        refine SeqA.cons (locg [47, 48, 41] [] rfl rfl rfl rfl rfl rfl rfl fun hq S hs hr => op_indexs' rfl rfl sl34 (vgt ((hs 47 rfl).trans rfl) hq) (vgt ((hs 48 rfl).trans rfl) hq) (opt_f he11 hq)) ⟨rfl, rfl, rfl, rfl⟩ ?_
        refine SeqA.cons (locg [49, 41] [] rfl rfl rfl rfl rfl rfl rfl fun hq S hs hr => op_fieldp lOut_2 rfl rfl fl69_2 (vgt ((hs 49 rfl).trans rfl) hq)) ⟨rfl, rfl, rfl, rfl⟩ ?_
        refine SeqA.cons (locg [50, 41] [] rfl rfl rfl rfl rfl rfl rfl fun hq S hs hr => op_loadp rfl rfl ty31 (vgt ((hs 50 rfl).trans rfl) hq)) ⟨rfl, rfl, rfl, rfl⟩ ?_
        refine SeqA.cons (locg [46, 51, 41] [] rfl rfl rfl rfl rfl rfl rfl fun hq S hs hr => op_neqk rfl rfl eqk31 (by decide) rfl eg31 (vgt ((hs 46 rfl).trans rfl) hq) (vgt ((hs 51 rfl).trans rfl) hq)) ⟨rfl, rfl, rfl, rfl⟩ ?_
        refine SeqA.cons (loc [52, 41] [] rfl rfl fun S hs hr => op_any rfl rfl (vt ((hs 41 rfl).trans rfl)) (vt ((hs 52 rfl).trans rfl))) ⟨rfl, rfl, rfl, rfl⟩ ?_
        refine AW.cond (vt rfl) (fun hc => ?_) (fun hc => ?_)
        · have h := cond_t hc h
          refine AW.seq ?_
          refine AW.region ?_
          refine AOps.cons (op_assign (A := rd kbool false) rfl rfl vb) rfl ?_
          refine AOps.nil ?_
          refine AW.ret ?_
          obtain rfl := Option.some.inj h
          exact ret1 Tryz.results12 rfl (out_tmp rfl)
        · have h := cond_f hc h
          refine AW.skip ?_
          refine AW.region ?_
          refine AOps.cons (op_move (A := rd (kint .i64) i4) rfl rfl (vt rfl)) rfl ?_
          refine AOps.cons (op_add rfl rfl (vt rfl) (vk rfl)) rfl ?_
          refine AOps.cons (op_assign (A := rd (kint .i64) (IntKind.i64.wrap (i4 + 1))) rfl rfl (vt rfl)) rfl ?_
          refine AOps.nil ?_
          subst hgo1
          exact ⟨(m5, (IntKind.i64.wrap (i4 + 1))), Nat.lt_succ_self _, ⟨trivial, h⟩, ⟨rfl, ⟨rfl, rfl, rfl, trivial⟩, trivial⟩⟩
      · have h := cond_f hc h
        refine AW.exit ?_
        refine AW.seq ?_
        refine AW.region ?_
        refine AOps.cons (op_assign (A := rd kbool true) rfl rfl vb) rfl ?_
        refine AOps.nil ?_
        refine AW.ret ?_
        obtain rfl := Option.some.inj h
        exact ret1 Tryz.results12 rfl (out_tmp rfl)
-- weirbox/weirboxlaw30.ExecDoes
def F3 (l1 : (List Group)) (e2 : Env) (acts3 : (List Action)) (id4 : Int) (h5 : (Vector Wide 24)) : Option Bool :=
  (F6 l1 [acts3]).bind fun x8 => (bif ((!x8) || (decide ((e2.Down.length : Int) > 20))) then (F7).bind fun x9 => some x9 else (F8 l1 e2 acts3 h5).bind fun x10 => (F9 l1 e2 acts3 h5).bind fun x12 => (F10 l1 e2 id4 h5).bind fun x14 => (F11 l1 e2 id4 h5).bind fun x15 => (F12 x10.1 x12.1).bind fun x16 => (opt (x16 && (decide (x10.2 = x12.2))) (F12 x14 x15)).bind fun x17 => (opt ((x16 && (decide (x10.2 = x12.2))) && x17) (F13 x10.1 x14)).bind fun x18 => (opt ((x16 && (decide (x10.2 = x12.2))) && x17) (F12 x10.1 x14)).bind fun x19 => (opt (((x16 && (decide (x10.2 = x12.2))) && x17) && (x18 == x19)) (F7)).bind fun x20 => some ((((x16 && (decide (x10.2 = x12.2))) && x17) && (x18 == x19)) && x20))
theorem c3 (l1 : (List Group)) (e2 : Env) (acts3 : (List Action)) (id4 : Int) (h5 : (Vector Wide 24)) (r : Bool) (h : F3 l1 e2 acts3 id4 h5 = some r) : PCon Tryz.prog 3 [rd (ksl kGroup) l1, rd kEnv e2, rd (ksl kAction) acts3, rd (kint .i64) id4, rd (karr 24 kWide) h5] (rd kbool r) := by
  refine PCon.of (Con.intro0 Tryz.func3 rfl Tryz.ntmps3 rfl fun w H => ?_)
  unfold F3 at h
  refine AW.seq ?_
  refine AW.region ?_
  refine AOps.consT rfl (op_box 7 rfl rfl (vt rfl)) ?_
  rintro _ ⟨g6, rfl⟩
  refine AOps.consT rfl (op_box 10 rfl rfl (vt rfl)) ?_
  rintro _ ⟨g7, rfl⟩
  refine AOps.cons (op_assign (A := rd kbool false) rfl rfl vb) rfl ?_
  refine AOps.nil ?_
  refine AW.seq ?_
  refine AW.seq ?_
  obtain ⟨x8, hx8, h⟩ := bsome h
  refine AW.region ?_
  refine AOps.cons (op_move (A := rd (ksl kGroup) l1) rfl rfl (vt rfl)) rfl ?_
  refine AOps.cons (op_move (A := rd (ksl kAction) acts3) rfl rfl (vt rfl)) rfl ?_
  refine AOps.cons (op_buildSliceR (ps := [(0, .tmp 18)]) (l := [acts3]) rfl rfl sl56 zr26 rfl rfl ⟨_, _, Lens.idx 1 (ksl kAction) 0 (by decide), _, rfl, (vt rfl), rfl⟩ rfl) rfl ?_
  refine AOps.cons (op_call (xs := [.tmp 17, .tmp 19]) (c6 _ _ _ hx8) (Ent.mk Tryz.func6 rfl rfl) rfl rfl ⟨vt rfl, vt rfl, trivial⟩) rfl ?_
  refine AOps.cons (op_not rfl rfl (vt rfl)) rfl ?_
  refine AOps.cons (op_move (A := rd kbool (!x8)) rfl rfl (vt rfl)) rfl ?_
  refine AOps.consG (OpG.guard rfl rfl rfl rfl rfl fun hq => op_field lEnv_1 rfl rfl fl25_1 (vt rfl)) ?_
  refine AOps.consG (OpG.guard rfl rfl rfl rfl rfl fun hq => op_load rfl rfl ty23 (vgt rfl hq) (i := 7) rfl) ?_
  refine AOps.consG (OpG.guard rfl rfl rfl rfl rfl fun hq => op_len' rfl rfl sl23 (vgt rfl hq)) ?_
  refine AOps.consG (OpG.guard rfl rfl rfl rfl rfl fun hq => op_gtr rfl rfl (vgt rfl hq) (vk rfl)) ?_
  refine AOps.cons (op_any rfl rfl (vt rfl) (vt rfl)) rfl ?_
  refine AOps.nil ?_
  refine AW.cond (vt rfl) (fun hc => ?_) (fun hc => ?_)
  · have h := cond_t hc h
    refine AW.seq ?_
    obtain ⟨x9, hx9, h⟩ := bsome h
    refine AW.region ?_
    refine AOps.cons (op_call (xs := []) (c7 _ hx9) (Ent.mk Tryz.func7 rfl rfl) rfl rfl trivial) rfl ?_
    refine AOps.cons (op_assign (A := rd kbool x9) rfl rfl (vt rfl)) rfl ?_
    refine AOps.nil ?_
    refine AW.ret ?_
    obtain rfl := Option.some.inj h
    exact ret1 Tryz.results3 rfl (out_tmp rfl)
  · have h := cond_f hc h
    refine AW.skip ?_
    refine AW.seq ?_
    obtain ⟨x10, hx10, h⟩ := bsome h
    refine AW.region ?_
    refine AOps.cons (op_move (A := rd (ksl kGroup) l1) rfl rfl (vt rfl)) rfl ?_
    refine AOps.cons (op_load rfl rfl ty25 (vt rfl) (i := 7) rfl) rfl ?_
    refine AOps.cons (op_move (A := rd (ksl kAction) acts3) rfl rfl (vt rfl)) rfl ?_
    refine AOps.cons (op_load rfl rfl ty31 (vt rfl) (i := 10) rfl) rfl ?_
    refine AOps.cons (op_call (xs := [.tmp 30, .tmp 31, .tmp 32, .tmp 33]) (c8 _ _ _ _ _ hx10) (Ent.mk Tryz.func8 rfl rfl) rfl rfl ⟨vt rfl, vt rfl, vt rfl, vt rfl, trivial⟩) rfl ?_
    refine AOps.cons (op_move (A := tup2 (rd (ksl kOut) x10.1) (rd (karr 24 kWide) x10.2)) rfl rfl (vt rfl)) rfl ?_
    refine AOps.cons (op_fst rfl rfl (vt rfl)) rfl ?_
    refine AOps.cons (op_snd rfl rfl (vt rfl)) rfl ?_
    refine AOps.consT rfl (op_alloc 13 rfl rfl zr31) ?_
    rintro _ ⟨g11, rfl⟩
    refine AOps.cons (op_assign (A := rd (ksl kOut) x10.1) rfl rfl (vt rfl)) rfl ?_
    refine AOps.cons (op_store rfl rfl ty31 (vt rfl) (i := 13) rfl (vt rfl)) rfl ?_
    refine AOps.nil ?_
    refine AW.seq ?_
    obtain ⟨x12, hx12, h⟩ := bsome h
    refine AW.region ?_
    refine AOps.cons (op_move (A := rd (ksl kGroup) l1) rfl rfl (vt rfl)) rfl ?_
    refine AOps.cons (op_load rfl rfl ty25 (vt rfl) (i := 7) rfl) rfl ?_
    refine AOps.cons (op_move (A := rd (ksl kAction) acts3) rfl rfl (vt rfl)) rfl ?_
    refine AOps.cons (op_load rfl rfl ty31 (vt rfl) (i := 10) rfl) rfl ?_
    refine AOps.cons (op_call (xs := [.tmp 38, .tmp 39, .tmp 40, .tmp 41]) (c9 _ _ _ _ _ hx12) (Ent.mk Tryz.func9 rfl rfl) rfl rfl ⟨vt rfl, vt rfl, vt rfl, vt rfl, trivial⟩) rfl ?_
    refine AOps.cons (op_move (A := tup2 (rd (ksl kOut) x12.1) (rd (karr 24 kWide) x12.2)) rfl rfl (vt rfl)) rfl ?_
    refine AOps.cons (op_fst rfl rfl (vt rfl)) rfl ?_
    refine AOps.cons (op_snd rfl rfl (vt rfl)) rfl ?_
    refine AOps.consT rfl (op_alloc 15 rfl rfl zr31) ?_
    rintro _ ⟨g13, rfl⟩
    refine AOps.cons (op_assign (A := rd (ksl kOut) x12.1) rfl rfl (vt rfl)) rfl ?_
    refine AOps.cons (op_store rfl rfl ty31 (vt rfl) (i := 15) rfl (vt rfl)) rfl ?_
    refine AOps.nil ?_
    refine AW.seq ?_
    obtain ⟨x14, hx14, h⟩ := bsome h
    obtain ⟨x15, hx15, h⟩ := bsome h
    refine AW.regionAny [⟨[0], [45], [], []⟩, ⟨[6], [46], [7], []⟩, ⟨[3], [47], [], []⟩, ⟨[9], [48], [10], []⟩, ⟨[45, 46, 47, 48], [49], [], []⟩, ⟨[0], [50], [], []⟩, ⟨[6], [51], [7], []⟩, ⟨[3], [52], [], []⟩, ⟨[9], [53], [10], []⟩, ⟨[50, 51, 52, 53], [54], [], []⟩, ⟨[49], [15], [], []⟩, ⟨[54], [16], [], []⟩] mixed (by kernel_rfl) ?_
    refine SeqA.cons (loc [0] [] rfl rfl fun S hs hr => op_move (A := rd (ksl kGroup) l1) rfl rfl (vt ((hs 0 rfl).trans rfl))) ⟨rfl, rfl, rfl, rfl⟩ ?_
    refine SeqA.cons (loc [6] [7] rfl rfl fun S hs hr => op_load rfl rfl ty25 (vt ((hs 6 rfl).trans rfl)) (i := 7) ((hr 7 rfl).trans rfl)) ⟨rfl, rfl, rfl, rfl⟩ ?_
    refine SeqA.cons (loc [3] [] rfl rfl fun S hs hr => op_move (A := rd (kint .i64) id4) rfl rfl (vt ((hs 3 rfl).trans rfl))) ⟨rfl, rfl, rfl, rfl⟩ ?_
    refine SeqA.cons (loc [9] [10] rfl rfl fun S hs hr => op_load rfl rfl ty31 (vt ((hs 9 rfl).trans rfl)) (i := 10) ((hr 10 rfl).trans rfl)) ⟨rfl, rfl, rfl, rfl⟩ ?_
    refine SeqA.cons (loc [45, 46, 47, 48] [] rfl rfl fun S hs hr => op_call (xs := [.tmp 45, .tmp 46, .tmp 47, .tmp 48]) (c10 _ _ _ _ _ hx14) (Ent.mk Tryz.func10 rfl rfl) rfl rfl ⟨vt ((hs 45 rfl).trans rfl), vt ((hs 46 rfl).trans rfl), vt ((hs 47 rfl).trans rfl), vt ((hs 48 rfl).trans rfl), trivial⟩) ⟨rfl, rfl, rfl, rfl⟩ ?_
    refine SeqA.cons (loc [0] [] rfl rfl fun S hs hr => op_move (A := rd (ksl kGroup) l1) rfl rfl (vt ((hs 0 rfl).trans rfl))) ⟨rfl, rfl, rfl, rfl⟩ ?_
    refine SeqA.cons (loc [6] [7] rfl rfl fun S hs hr => op_load rfl rfl ty25 (vt ((hs 6 rfl).trans rfl)) (i := 7) ((hr 7 rfl).trans rfl)) ⟨rfl, rfl, rfl, rfl⟩ ?_
    refine SeqA.cons (loc [3] [] rfl rfl fun S hs hr => op_move (A := rd (kint .i64) id4) rfl rfl (vt ((hs 3 rfl).trans rfl))) ⟨rfl, rfl, rfl, rfl⟩ ?_
    refine SeqA.cons (loc [9] [10] rfl rfl fun S hs hr => op_load rfl rfl ty31 (vt ((hs 9 rfl).trans rfl)) (i := 10) ((hr 10 rfl).trans rfl)) ⟨rfl, rfl, rfl, rfl⟩ ?_
    refine SeqA.cons (loc [50, 51, 52, 53] [] rfl rfl fun S hs hr => op_call (xs := [.tmp 50, .tmp 51, .tmp 52, .tmp 53]) (c11 _ _ _ _ _ hx15) (Ent.mk Tryz.func11 rfl rfl) rfl rfl ⟨vt ((hs 50 rfl).trans rfl), vt ((hs 51 rfl).trans rfl), vt ((hs 52 rfl).trans rfl), vt ((hs 53 rfl).trans rfl), trivial⟩) ⟨rfl, rfl, rfl, rfl⟩ ?_
    refine SeqA.cons (loc [49] [] rfl rfl fun S hs hr => op_assign (A := rd (ksl kOut) x14) rfl rfl (vt ((hs 49 rfl).trans rfl))) ⟨rfl, rfl, rfl, rfl⟩ ?_
    refine SeqA.cons (loc [54] [] rfl rfl fun S hs hr => op_assign (A := rd (ksl kOut) x15) rfl rfl (vt ((hs 54 rfl).trans rfl))) ⟨rfl, rfl, rfl, rfl⟩ ?_
    refine AW.seq ?_
    obtain ⟨x16, hx16, h⟩ := bsome h
    obtain ⟨x17, hx17, h⟩ := bsome h
    obtain ⟨x18, hx18, h⟩ := bsome h
    obtain ⟨x19, hx19, h⟩ := bsome h
    obtain ⟨x20, hx20, h⟩ := bsome h
    refine AW.region ?_
    refine AOps.cons (op_move (A := rd (ksl kOut) x10.1) rfl rfl (vt rfl)) rfl ?_
    refine AOps.cons (op_move (A := rd (ksl kOut) x12.1) rfl rfl (vt rfl)) rfl ?_
    refine AOps.cons (op_call (xs := [.tmp 55, .tmp 56]) (c12 _ _ _ hx16) (Ent.mk Tryz.func12 rfl rfl) rfl rfl ⟨vt rfl, vt rfl, trivial⟩) rfl ?_
    refine AOps.cons (op_move (A := rd kbool x16) rfl rfl (vt rfl)) rfl ?_
    refine AOps.consG (OpG.guard rfl rfl rfl rfl rfl fun hq => op_load rfl rfl ty31 (vt rfl) (i := 13) rfl) ?_
    refine AOps.consG (OpG.guard rfl rfl rfl rfl rfl fun hq => op_load rfl rfl ty31 (vt rfl) (i := 15) rfl) ?_
    refine AOps.consG (OpG.guard rfl rfl rfl rfl rfl fun hq => op_eqlk rfl rfl eqk31 (by decide) rfl eg31 (vgt rfl hq) (vgt rfl hq)) ?_
    refine AOps.cons (op_all rfl rfl (vt rfl) (vt rfl)) rfl ?_
    refine AOps.cons (op_move (A := rd kbool (x16 && (decide (x10.2 = x12.2)))) rfl rfl (vt rfl)) rfl ?_
    refine AOps.consG (OpG.guard rfl rfl rfl rfl rfl fun hq => op_move (A := rd (ksl kOut) x14) rfl rfl (vt rfl)) ?_
    refine AOps.consG (OpG.guard rfl rfl rfl rfl rfl fun hq => op_move (A := rd (ksl kOut) x15) rfl rfl (vt rfl)) ?_
    refine AOps.consG (OpG.guard rfl rfl rfl rfl rfl fun hq => op_call (xs := [.tmp 64, .tmp 65]) (c12 _ _ _ (opt_t hx17 hq)) (Ent.mk Tryz.func12 rfl rfl) rfl rfl ⟨vgt rfl hq, vgt rfl hq, trivial⟩) ?_
    refine AOps.cons (op_all rfl rfl (vt rfl) (vt rfl)) rfl ?_
    refine AOps.cons (op_move (A := rd kbool ((x16 && (decide (x10.2 = x12.2))) && x17)) rfl rfl (vt rfl)) rfl ?_
    refine AOps.consG (OpG.guard rfl rfl rfl rfl rfl fun hq => op_move (A := rd (ksl kOut) x10.1) rfl rfl (vt rfl)) ?_
    refine AOps.consG (OpG.guard rfl rfl rfl rfl rfl fun hq => op_move (A := rd (ksl kOut) x14) rfl rfl (vt rfl)) ?_
    refine AOps.consG (OpG.guard rfl rfl rfl rfl rfl fun hq => op_call (xs := [.tmp 69, .tmp 70]) (c13 _ _ _ (opt_t hx18 hq)) (Ent.mk Tryz.func13 rfl rfl) rfl rfl ⟨vgt rfl hq, vgt rfl hq, trivial⟩) ?_
    refine AOps.consG (OpG.guard rfl rfl rfl rfl rfl fun hq => op_move (A := rd (ksl kOut) x10.1) rfl rfl (vt rfl)) ?_
    refine AOps.consG (OpG.guard rfl rfl rfl rfl rfl fun hq => op_move (A := rd (ksl kOut) x14) rfl rfl (vt rfl)) ?_
    refine AOps.consG (OpG.guard rfl rfl rfl rfl rfl fun hq => op_call (xs := [.tmp 72, .tmp 73]) (c12 _ _ _ (opt_t hx19 hq)) (Ent.mk Tryz.func12 rfl rfl) rfl rfl ⟨vgt rfl hq, vgt rfl hq, trivial⟩) ?_
    refine AOps.consG (OpG.guard rfl rfl rfl rfl rfl fun hq => op_eqlb rfl rfl un4 (vgt rfl hq) (vgt rfl hq)) ?_
    refine AOps.cons (op_all rfl rfl (vt rfl) (vt rfl)) rfl ?_
    refine AOps.cons (op_move (A := rd kbool (((x16 && (decide (x10.2 = x12.2))) && x17) && (x18 == x19))) rfl rfl (vt rfl)) rfl ?_
    refine AOps.consG (OpG.guard rfl rfl rfl rfl rfl fun hq => op_call (xs := []) (c7 _ (opt_t hx20 hq)) (Ent.mk Tryz.func7 rfl rfl) rfl rfl trivial) ?_
    refine AOps.cons (op_all rfl rfl (vt rfl) (vt rfl)) rfl ?_
    refine AOps.cons (op_assign (A := rd kbool ((((x16 && (decide (x10.2 = x12.2))) && x17) && (x18 == x19)) && x20)) rfl rfl (vt rfl)) rfl ?_
    refine AOps.nil ?_
    refine AW.ret ?_
    obtain rfl := Option.some.inj h
    exact ret1 Tryz.results3 rfl (out_tmp rfl)
-- weirbox/weirboxplain.Atoms
def F23 (l1 : (List Atom)) : Option Bool :=
  some (decide ((l1.length : Int) ≤ 12))
theorem c23 (l1 : (List Atom)) (r : Bool) (h : F23 l1 = some r) : PCon Tryz.prog 23 [rd (ksl kAtom) l1] (rd kbool r) := by
  refine PCon.of (Con.intro0 Tryz.func23 rfl Tryz.ntmps23 rfl fun w H => ?_)
  unfold F23 at h
  refine AW.seq ?_
  refine AW.region ?_
  refine AOps.cons (op_assign (A := rd kbool false) rfl rfl vb) rfl ?_
  refine AOps.nil ?_
  refine AW.seq ?_
  refine AW.region ?_
  refine AOps.cons (op_move (A := rd (ksl kAtom) l1) rfl rfl (vt rfl)) rfl ?_
  refine AOps.cons (op_len' rfl rfl sl40 (vt rfl)) rfl ?_
  refine AOps.cons (op_leq rfl rfl (vt rfl) (vk rfl)) rfl ?_
  refine AOps.cons (op_assign (A := rd kbool (decide ((l1.length : Int) ≤ 12))) rfl rfl (vt rfl)) rfl ?_
  refine AOps.nil ?_
  refine AW.ret ?_
  obtain rfl := Option.some.inj h
  exact ret1 Tryz.results23 rfl (out_tmp rfl)
-- weirbox/weirboxlaw38.light
def F14 (l1 : (List Group)) (e2 : Env) (a3 : (List Atom)) : Option Bool :=
  (F22 l1 9 3).bind fun x5 => (opt x5 (F23 a3)).bind fun x6 => some ((x5 && x6) && (decide ((e2.Down.length : Int) ≤ 20)))
theorem c14 (l1 : (List Group)) (e2 : Env) (a3 : (List Atom)) (r : Bool) (h : F14 l1 e2 a3 = some r) : PCon Tryz.prog 14 [rd (ksl kGroup) l1, rd kEnv e2, rd (ksl kAtom) a3] (rd kbool r) := by
  refine PCon.of (Con.intro0 Tryz.func14 rfl Tryz.ntmps14 rfl fun w H => ?_)
  unfold F14 at h
  refine AW.seq ?_
  refine AW.region ?_
  refine AOps.consT rfl (op_box 5 rfl rfl (vt rfl)) ?_
  rintro _ ⟨g4, rfl⟩
  refine AOps.cons (op_assign (A := rd kbool false) rfl rfl vb) rfl ?_
  refine AOps.nil ?_
  refine AW.seq ?_
  obtain ⟨x5, hx5, h⟩ := bsome h
  obtain ⟨x6, hx6, h⟩ := bsome h
  refine AW.region ?_
  refine AOps.cons (op_move (A := rd (ksl kGroup) l1) rfl rfl (vt rfl)) rfl ?_
  refine AOps.cons (op_call (xs := [.tmp 7, .const (Value.int IntKind.i64 9), .const (Value.int IntKind.i64 3)]) (c22 _ _ _ _ hx5) (Ent.mk Tryz.func22 rfl rfl) rfl rfl ⟨vt rfl, vk rfl, vk rfl, trivial⟩) rfl ?_
  refine AOps.cons (op_move (A := rd kbool x5) rfl rfl (vt rfl)) rfl ?_
  refine AOps.consG (OpG.guard rfl rfl rfl rfl rfl fun hq => op_move (A := rd (ksl kAtom) a3) rfl rfl (vt rfl)) ?_
  refine AOps.consG (OpG.guard rfl rfl rfl rfl rfl fun hq => op_call (xs := [.tmp 10]) (c23 _ _ (opt_t hx6 hq)) (Ent.mk Tryz.func23 rfl rfl) rfl rfl ⟨vgt rfl hq, trivial⟩) ?_
  refine AOps.cons (op_all rfl rfl (vt rfl) (vt rfl)) rfl ?_
  refine AOps.cons (op_move (A := rd kbool (x5 && x6)) rfl rfl (vt rfl)) rfl ?_
  refine AOps.consG (OpG.guard rfl rfl rfl rfl rfl fun hq => op_field lEnv_1 rfl rfl fl25_1 (vt rfl)) ?_
  refine AOps.consG (OpG.guard rfl rfl rfl rfl rfl fun hq => op_load rfl rfl ty23 (vgt rfl hq) (i := 5) rfl) ?_
  refine AOps.consG (OpG.guard rfl rfl rfl rfl rfl fun hq => op_len' rfl rfl sl23 (vgt rfl hq)) ?_
  refine AOps.consG (OpG.guard rfl rfl rfl rfl rfl fun hq => op_leq rfl rfl (vgt rfl hq) (vk rfl)) ?_
  refine AOps.cons (op_all rfl rfl (vt rfl) (vt rfl)) rfl ?_
  refine AOps.cons (op_assign (A := rd kbool ((x5 && x6) && (decide ((e2.Down.length : Int) ≤ 20)))) rfl rfl (vt rfl)) rfl ?_
  refine AOps.nil ?_
  refine AW.ret ?_
  obtain rfl := Option.some.inj h
  exact ret1 Tryz.results14 rfl (out_tmp rfl)
end Go.Proofs.YtokmmcflinnfiaaGreat.W
