/- A part of the proof. -/
import Derived.Test.YtknpgojdkobgjaaGreatG1
set_option linter.unusedVariables false
set_option maxRecDepth 4000
set_option linter.unusedSimpArgs false
namespace Go.Proofs.YtknpgojdkobgjaaGreat.W
open Go Go.Wb
theorem e212 : Ent Tryz.prog 212 := Ent.mk Tryz.func212 rfl rfl
theorem e204 : Ent Tryz.prog 204 := Ent.mk Tryz.func204 rfl rfl
theorem e148 : Ent Tryz.prog 148 := Ent.mk Tryz.func148 rfl rfl
theorem e34 : Ent Tryz.prog 34 := Ent.mk Tryz.func34 rfl rfl
theorem e147 : Ent Tryz.prog 147 := Ent.mk Tryz.func147 rfl rfl
theorem e86 : Ent Tryz.prog 86 := Ent.mk Tryz.func86 rfl rfl
theorem e29 : Ent Tryz.prog 29 := Ent.mk Tryz.func29 rfl rfl
theorem e32 : Ent Tryz.prog 32 := Ent.mk Tryz.func32 rfl rfl
theorem e31 : Ent Tryz.prog 31 := Ent.mk Tryz.func31 rfl rfl
def F_sem_packet_act (p1 : sem_packet) (l5 : (List Action)) : Option sem_packet :=
  (F_exec_Do p1.Switch.Groups p1.env l5 p1.header).bind fun x6 => (appd p1.out x6.1).bind fun l8 => some (⟨p1.Switch, p1.env, x6.2, p1.set, l8, p1.path⟩ : sem_packet)
theorem c_sem_packet_act (g2 gT : Nat) (p1 : sem_packet) (l5 : (List Action)) (r : sem_packet) (h : F_sem_packet_act p1 l5 = some r) : Con Tryz.prog 148 [ptrL g2 (Lens.id ksem_packet_o4_5), rd (ksl kAction) l5] (Star (fun v2 => BoxF g2 gT ksem_packet_o4_5 (fun v => (⟨p1.Switch, p1.env, p1.header, p1.set, v, v2⟩ : sem_packet_o4_5)) 71 kOut p1.out) 51 kPlace p1.path) (fun _ : Unit => top) (fun _ => Star (fun v2 => BoxF g2 gT ksem_packet_o4_5 (fun v => (⟨r.Switch, r.env, r.header, r.set, v, v2⟩ : sem_packet_o4_5)) 71 kOut r.out) 51 kPlace r.path) := by
  refine Con.intro Tryz.func148 rfl Tryz.ntmps148 rfl fun w H X => ?_
  unfold F_sem_packet_act at h
  refine AW.unboxS 0 2005 (by decide) rfl rfl fun v4 => AW.unboxF 0 2004 (by decide) rfl rfl fun v3 => AW.seq ?_
  obtain ⟨x6, hx6, h⟩ := bsome h
  refine AW.regionAny [⟨[0], [7], [], []⟩, ⟨[7], [8], [], []⟩, ⟨[8], [9], [], []⟩, ⟨[9], [10], [], []⟩, ⟨[10], [11], [0], []⟩, ⟨[0], [12], [], []⟩, ⟨[12], [13], [], []⟩, ⟨[13], [14], [], []⟩, ⟨[14], [15], [0], []⟩, ⟨[1], [16], [], []⟩, ⟨[0], [17], [], []⟩, ⟨[17], [18], [], []⟩, ⟨[18], [19], [], []⟩, ⟨[19], [20], [0], []⟩, ⟨[11, 15, 16, 20], [21], [], []⟩, ⟨[21], [6], [], []⟩, ⟨[6], [22], [], []⟩, ⟨[6], [23], [], []⟩, ⟨[], [5], [], []⟩, ⟨[22], [4], [], []⟩, ⟨[5, 23], [5], [], []⟩] mixed (by kernel_rfl) <| SMp rfl <| SNc rfl <| SFd lsem_packet_o4_5_0 flv144_0_4_5 rfl <| SFd lSwitch_1 fl26_1 rfl <| SLd ty24 0 rfl <| SMp rfl <| SNc rfl <| SFd lsem_packet_o4_5_1 flv144_1_4_5 rfl <| SLd ty39 0 rfl <| SMd rfl <| SMp rfl <| SNc rfl <| SFd lsem_packet_o4_5_2 flv144_2_4_5 rfl <| SLd ty44 0 rfl <| SCl [11, 15, 16, 20] (c_exec_Do _ _ _ _ _ hx6) e212 rfl <| Sc (lo [21] [] rfl fun S hs hr => op_move (A := tup2 (rd (ksl kOut) x6.1) (rd (karr 24 kWide) x6.2)) rfl rfl (vh hs 21 rfl rfl)) rfl <| Sc (lo [6] [] rfl fun S hs hr => op_fst rfl rfl (vh hs 6 rfl rfl)) rfl <| Sc (lo [6] [] rfl fun S hs hr => op_snd rfl rfl (vh hs 6 rfl rfl)) rfl <| Sc (locs (us := [(5, ownP 44 (karr 24 kWide) (Vector.replicate 24 zWide))]) (ur := []) [] [] rfl fun S hs hr => op_allocO rfl rfl rfl zr44) rfl <| SAs rfl <| Sc (locs (us := [(5, ownP 44 (karr 24 kWide) x6.2)]) (ur := []) [5, 23] [] rfl fun S hs hr => op_storeO rfl rfl ty44 ((hs 5 rfl).trans rfl) (vh hs 23 rfl rfl)) rfl <| AW.unpackP 5 6 rfl rfl fun g7 => ?_
  obtain ⟨l8, hl8, h⟩ := bsome h
  refine AW.endT <| AW.regionAny [⟨[0], [24], [], []⟩, ⟨[0], [25], [], []⟩, ⟨[0], [26], [], []⟩, ⟨[26], [27], [], []⟩, ⟨[27], [28], [], []⟩, ⟨[28], [29], [0], []⟩, ⟨[4], [30], [], []⟩, ⟨[29, 30], [31], [2004], [2004]⟩, ⟨[5], [32], [6], []⟩, ⟨[24], [33], [], []⟩, ⟨[33], [34], [], []⟩, ⟨[34, 31], [31], [0], [0]⟩, ⟨[25], [35], [], []⟩, ⟨[35], [36], [], []⟩, ⟨[36, 32], [], [0], [0]⟩] mixed (by kernel_rfl) <| SMp rfl <| SMp rfl <| SMp rfl <| SNc rfl <| SFd lsem_packet_o4_5_4 flv144_4_4_5 rfl <| Sc (lo [28] [0] rfl fun S hs hr => op_loadv v3 rfl rfl tyr46 (vh hs 28 rfl rfl) (i := 0) ((hr 0 rfl).trans rfl) rfl) rfl <| SMd rfl <| Sc (locs (us := [(31, ownR 71 kOut l8)]) (ur := [(2004, emp)]) [29, 30] [2004] rfl fun S hs hr => op_appendO 2004 hl8 rfl rfl rfl el46 (vh hs 29 rfl rfl) ((hr 2004 rfl).trans rfl) (vh hs 30 rfl rfl)) rfl <| SLd ty44 6 rfl <| SNc rfl <| SFd lsem_packet_o4_5_4 flv144_4_4_5 rfl <| Sc (locs (us := [(31, top)]) (ur := [(0, BoxF g2 gT ksem_packet_o4_5 (fun v => ((Lens.comp (Lens.id ksem_packet_o4_5) lsem_packet_o4_5_4)).set (⟨p1.Switch, p1.env, p1.header, p1.set, v3, v4⟩ : sem_packet_o4_5) v) 71 kOut l8)]) [34, 31] [0] rfl fun S hs hr => op_storeR rfl rfl tyr46 (vh hs 34 rfl rfl) ((hr 0 rfl).trans rfl) ((hs 31 rfl).trans rfl)) rfl <| SNc rfl <| SFd lsem_packet_o4_5_2 flv144_2_4_5 rfl <| Sc (locr [36, 32] [0] rfl fun S hs hr => op_storeF rfl rfl ty44 (vh hs 36 rfl rfl) (i := 0) ((hr 0 rfl).trans rfl) (vh hs 32 rfl rfl)) rfl <| EndT.unboxF 0 2004 (by decide) rfl rfl fun v9 => EndT.done ?_
  obtain rfl := si h
  exact RetOK.turn (Turn.packF 0 2004 (fun v => (⟨p1.Switch, p1.env, x6.2, p1.set, v, v4⟩ : sem_packet_o4_5)) (by decide) rfl rfl) (RetOK.turn (Turn.packS 0 2005 (fun v2 => BoxF g2 gT ksem_packet_o4_5 (fun v => (⟨p1.Switch, p1.env, x6.2, p1.set, v, v2⟩ : sem_packet_o4_5)) 71 kOut l8) (by decide) rfl rfl) (ret0Y (i := 0) Tryz.results148 rfl rfl))
def F_sem_packet_follow_j4 (l6 : (List Inst)) (at5 : Int) (l7 : (List Out)) (l9 : (List Place)) (b23 : Switch) (b24 : Env) (b25 : (Vector Wide 24)) (b26 : (List Action)) : Option (Int × Bool × sem_packet) :=
  (F_inst_Of l6 1).bind fun x27 => some (x27.1.Table, ((x27.2 && (decide (x27.1.Table > at5))) && (decide (x27.1.Table < 4))), (⟨b23, b24, b25, b26, l7, l9⟩ : sem_packet))
def F_sem_packet_follow_j3 (l6 : (List Inst)) (at5 : Int) (l7 : (List Out)) (l9 : (List Place)) (b19 : Switch) (b20 : Env) (b21 : (Vector Wide 24)) (b22 : (List Action)) : Option (Int × Bool × sem_packet) :=
  (F_inst_Of l6 2).bind fun x29 => (bif x29.2 then (F_rewrite_None).bind fun x31 => (F_rewrite_Set x31 1 x29.1.Value x29.1.Mask).bind fun x32 => (F_rewrite_Apply x32 b21).bind fun x33 => F_sem_packet_follow_j4 l6 at5 l7 l9 b19 b20 x33 b22 else F_sem_packet_follow_j4 l6 at5 l7 l9 b19 b20 b21 b22)
def F_sem_packet_follow_j2 (l6 : (List Inst)) (at5 : Int) (l7 : (List Out)) (l9 : (List Place)) (b15 : Switch) (b16 : Env) (b17 : (Vector Wide 24)) (b18 : (List Action)) : Option (Int × Bool × sem_packet) :=
  (F_inst_Of l6 3).bind fun x34 => (bif x34.2 then (F_aset_Write b18 x34.1.Acts).bind fun x36 => F_sem_packet_follow_j3 l6 at5 l7 l9 b15 b16 b17 x36 else F_sem_packet_follow_j3 l6 at5 l7 l9 b15 b16 b17 b18)
def F_sem_packet_follow_j1 (l6 : (List Inst)) (at5 : Int) (l7 : (List Out)) (l9 : (List Place)) (b11 : Switch) (b12 : Env) (b13 : (Vector Wide 24)) (b14 : (List Action)) : Option (Int × Bool × sem_packet) :=
  (F_inst_Of l6 5).bind fun x37 => (bif x37.2 then F_sem_packet_follow_j2 l6 at5 l7 l9 b11 b12 b13 [] else F_sem_packet_follow_j2 l6 at5 l7 l9 b11 b12 b13 b14)
def F_sem_packet_follow (p1 : sem_packet) (at5 : Int) (l6 : (List Inst)) : Option (Int × Bool × sem_packet) :=
  (F_inst_Of l6 4).bind fun x39 => (bif x39.2 then (F_sem_packet_act (⟨p1.Switch, p1.env, p1.header, p1.set, p1.out, p1.path⟩ : sem_packet) x39.1.Acts).bind fun b41 => F_sem_packet_follow_j1 l6 at5 b41.out b41.path b41.Switch b41.env b41.header b41.set else F_sem_packet_follow_j1 l6 at5 p1.out p1.path p1.Switch p1.env p1.header p1.set)
theorem c_sem_packet_follow (g2 gT : Nat) (p1 : sem_packet) (at5 : Int) (l6 : (List Inst)) (r : (Int × Bool × sem_packet)) (h : F_sem_packet_follow p1 at5 l6 = some r) : Con Tryz.prog 147 [ptrL g2 (Lens.id ksem_packet_o4_5), rd (kint .i64) at5, rd (ksl kInst) l6] (Star (fun v2 => BoxF g2 gT ksem_packet_o4_5 (fun v => (⟨p1.Switch, p1.env, p1.header, p1.set, v, v2⟩ : sem_packet_o4_5)) 71 kOut p1.out) 51 kPlace p1.path) (fun _ : Unit => tup2 (rd (kint .i64) r.1) (rd kbool r.2.1)) (fun _ => Star (fun v2 => BoxF g2 gT ksem_packet_o4_5 (fun v => (⟨r.2.2.Switch, r.2.2.env, r.2.2.header, r.2.2.set, v, v2⟩ : sem_packet_o4_5)) 71 kOut r.2.2.out) 51 kPlace r.2.2.path) := by
  refine Con.intro Tryz.func147 rfl Tryz.ntmps147 rfl fun w H X => ?_
  unfold F_sem_packet_follow at h
  refine AW.unboxS 0 2005 (by decide) rfl rfl fun v4 => AW.unboxF 0 2004 (by decide) rfl rfl fun v3 => SR <| Ak rfl <| Ab rfl <| Nl ?_
  refine AW.join (d := []) (ν := (List Out) × (List Place) × Switch × Env × (Vector Wide 24) × (List Action) × Value × Value) (fun n => F_sem_packet_follow_j1 l6 at5 n.1 n.2.1 n.2.2.1 n.2.2.2.1 n.2.2.2.2.1 n.2.2.2.2.2.1 = some r) (fun n => [(0, ptrL g2 (Lens.id ksem_packet_o4_5)), (1, rd (kint .i64) at5), (2, rd (ksl kInst) l6)]) (fun n => [(0, Blk g2 gT ksem_packet_o4_5 (⟨n.2.2.1, n.2.2.2.1, n.2.2.2.2.1, n.2.2.2.2.2.1, n.2.2.2.2.2.2.1, n.2.2.2.2.2.2.2⟩ : sem_packet_o4_5)), (2004, Row n.2.2.2.2.2.2.1 71 kOut n.1), (2005, Row n.2.2.2.2.2.2.2 51 kPlace n.2.1)]) ?hx1 ?hy1
  case hy1 =>
    rintro ⟨l7, l9, b11, b12, b13, b14, v8, v10⟩ h
    unfold F_sem_packet_follow_j1 at h
    change AW _ _ _ ⟨slots [(0, ptrL g2 (Lens.id ksem_packet_o4_5)), (1, rd (kint .i64) at5), (2, rd (ksl kInst) l6)], ress [(0, Blk g2 gT ksem_packet_o4_5 (⟨b11, b12, b13, b14, v8, v10⟩ : sem_packet_o4_5)), (2004, Row v8 71 kOut l7), (2005, Row v10 51 kPlace l9)], _⟩
    refine AW.join (d := []) (ν := Switch × Env × (Vector Wide 24) × (List Action)) (fun n => F_sem_packet_follow_j2 l6 at5 l7 l9 n.1 n.2.1 n.2.2.1 n.2.2.2 = some r) (fun n => [(0, ptrL g2 (Lens.id ksem_packet_o4_5)), (1, rd (kint .i64) at5), (2, rd (ksl kInst) l6)]) (fun n => [(0, Blk g2 gT ksem_packet_o4_5 (⟨n.1, n.2.1, n.2.2.1, n.2.2.2, v8, v10⟩ : sem_packet_o4_5)), (2004, Row v8 71 kOut l7), (2005, Row v10 51 kPlace l9)]) ?hx2 ?hy2
    case hy2 =>
      rintro ⟨b15, b16, b17, b18⟩ h
      unfold F_sem_packet_follow_j2 at h
      change AW _ _ _ ⟨slots [(0, ptrL g2 (Lens.id ksem_packet_o4_5)), (1, rd (kint .i64) at5), (2, rd (ksl kInst) l6)], ress [(0, Blk g2 gT ksem_packet_o4_5 (⟨b15, b16, b17, b18, v8, v10⟩ : sem_packet_o4_5)), (2004, Row v8 71 kOut l7), (2005, Row v10 51 kPlace l9)], _⟩
      refine AW.join (d := []) (ν := Switch × Env × (Vector Wide 24) × (List Action)) (fun n => F_sem_packet_follow_j3 l6 at5 l7 l9 n.1 n.2.1 n.2.2.1 n.2.2.2 = some r) (fun n => [(0, ptrL g2 (Lens.id ksem_packet_o4_5)), (1, rd (kint .i64) at5), (2, rd (ksl kInst) l6)]) (fun n => [(0, Blk g2 gT ksem_packet_o4_5 (⟨n.1, n.2.1, n.2.2.1, n.2.2.2, v8, v10⟩ : sem_packet_o4_5)), (2004, Row v8 71 kOut l7), (2005, Row v10 51 kPlace l9)]) ?hx3 ?hy3
      case hy3 =>
        rintro ⟨b19, b20, b21, b22⟩ h
        unfold F_sem_packet_follow_j3 at h
        change AW _ _ _ ⟨slots [(0, ptrL g2 (Lens.id ksem_packet_o4_5)), (1, rd (kint .i64) at5), (2, rd (ksl kInst) l6)], ress [(0, Blk g2 gT ksem_packet_o4_5 (⟨b19, b20, b21, b22, v8, v10⟩ : sem_packet_o4_5)), (2004, Row v8 71 kOut l7), (2005, Row v10 51 kPlace l9)], _⟩
        refine AW.join (d := []) (ν := Switch × Env × (Vector Wide 24) × (List Action)) (fun n => F_sem_packet_follow_j4 l6 at5 l7 l9 n.1 n.2.1 n.2.2.1 n.2.2.2 = some r) (fun n => [(1, rd (kint .i64) at5), (2, rd (ksl kInst) l6)]) (fun n => [(0, Blk g2 gT ksem_packet_o4_5 (⟨n.1, n.2.1, n.2.2.1, n.2.2.2, v8, v10⟩ : sem_packet_o4_5)), (2004, Row v8 71 kOut l7), (2005, Row v10 51 kPlace l9)]) ?hx4 ?hy4
        case hy4 =>
          rintro ⟨b23, b24, b25, b26⟩ h
          unfold F_sem_packet_follow_j4 at h
          change AW _ _ _ ⟨slots [(1, rd (kint .i64) at5), (2, rd (ksl kInst) l6)], ress [(0, Blk g2 gT ksem_packet_o4_5 (⟨b23, b24, b25, b26, v8, v10⟩ : sem_packet_o4_5)), (2004, Row v8 71 kOut l7), (2005, Row v10 51 kPlace l9)], _⟩
          refine AW.seq ?_
          obtain ⟨x27, hx27, h⟩ := bsome h
          refine Rg <| Md rfl <| Ac (op_call (xs := [.tmp 74, .const (Value.int IntKind.i64 1)]) (c_inst_Of _ _ _ hx27) e204 rfl rfl ⟨vt rfl, vk rfl, trivial⟩) rfl <| Mt2 rfl <| Ac (op_fst rfl rfl (vt rfl)) rfl <| Ac (op_snd rfl rfl (vt rfl)) rfl <| Ct rfl (op_alloc 17 rfl rfl zr124) ?_
          rintro _ ⟨g28, rfl⟩
          refine Sto ty124 17 rfl <| As rfl <| Nl <| AW.seq <| AW.regionAny [⟨[16], [78], [], []⟩, ⟨[78], [79], [17], []⟩, ⟨[17], [80], [], []⟩, ⟨[80], [81], [], []⟩, ⟨[16, 81], [82], [], []⟩, ⟨[82, 81], [83], [17], []⟩, ⟨[1, 81], [84], [], []⟩, ⟨[83, 84, 81], [85], [], []⟩, ⟨[85, 81], [86], [], []⟩, ⟨[86], [87], [], []⟩, ⟨[16, 87], [88], [], []⟩, ⟨[88, 87], [89], [17], []⟩, ⟨[89, 87], [90], [], []⟩, ⟨[90, 87], [91], [], []⟩, ⟨[79], [6], [], []⟩, ⟨[91], [7], [], []⟩] mixed (by kernel_rfl) <| SFd lInst_1 fl124_1 rfl <| SLd ty3 17 rfl <| SMd rfl <| SMd rfl <| Sc (lg [16, 81] [] rfl fun hq S hs hr => op_field lInst_1 rfl rfl fl124_1 (vh hs 16 rfl rfl)) rfl <| Sc (lg [82, 81] [17] rfl fun hq S hs hr => op_load rfl rfl ty3 (vgt ((hs 82 rfl).trans rfl) hq) (i := 17) ((hr 17 rfl).trans rfl)) rfl <| Sc (lg [1, 81] [] rfl fun hq S hs hr => op_move (A := rd (kint .i64) at5) rfl rfl (vh hs 1 rfl rfl)) rfl <| Sc (lg [83, 84, 81] [] rfl fun hq S hs hr => op_gtr rfl rfl (vgt ((hs 83 rfl).trans rfl) hq) (vgt ((hs 84 rfl).trans rfl) hq)) rfl <| Sc (lo [85, 81] [] rfl fun S hs hr => op_all rfl rfl (vh hs 81 rfl rfl) (vh hs 85 rfl rfl)) rfl <| SMd rfl <| Sc (lg [16, 87] [] rfl fun hq S hs hr => op_field lInst_1 rfl rfl fl124_1 (vh hs 16 rfl rfl)) rfl <| Sc (lg [88, 87] [17] rfl fun hq S hs hr => op_load rfl rfl ty3 (vgt ((hs 88 rfl).trans rfl) hq) (i := 17) ((hr 17 rfl).trans rfl)) rfl <| Sc (lg [89, 87] [] rfl fun hq S hs hr => op_lss rfl rfl (vgt ((hs 89 rfl).trans rfl) hq) (vk rfl)) rfl <| Sc (lo [90, 87] [] rfl fun S hs hr => op_all rfl rfl (vh hs 87 rfl rfl) (vh hs 90 rfl rfl)) rfl <| SAs rfl <| SAs rfl <| AW.ret ?_
          obtain rfl := si h
          exact RetOK.turn (Turn.packF 0 2004 (fun v => (⟨b23, b24, b25, b26, v, v10⟩ : sem_packet_o4_5)) (by decide) rfl rfl) (RetOK.turn (Turn.packS 0 2005 (fun v2 => BoxF g2 gT ksem_packet_o4_5 (fun v => (⟨b23, b24, b25, b26, v, v2⟩ : sem_packet_o4_5)) 71 kOut l7) (by decide) rfl rfl) (ret2Y (i := 0) Tryz.results147 rfl (out_tmp rfl) (out_tmp rfl) rfl))
        case hx4 =>
          refine AW.seq ?_
          obtain ⟨x29, hx29, h⟩ := bsome h
          refine Rg <| Md rfl <| Ac (op_call (xs := [.tmp 54, .const (Value.int IntKind.i64 2)]) (c_inst_Of _ _ _ hx29) e204 rfl rfl ⟨vt rfl, vk rfl, trivial⟩) rfl <| Mt2 rfl <| Ac (op_fst rfl rfl (vt rfl)) rfl <| Ac (op_snd rfl rfl (vt rfl)) rfl <| Ct rfl (op_alloc 15 rfl rfl zr124) ?_
          rintro _ ⟨g30, rfl⟩
          refine Sto ty124 15 rfl <| As rfl <| Nl <| SR <| Md rfl <| Nl <| Cn rfl (fun hc => ?_) (fun hc => ?_)
          · have h := cond_t hc h
            obtain ⟨x31, hx31, h⟩ := bsome h
            obtain ⟨x32, hx32, h⟩ := bsome h
            obtain ⟨x33, hx33, h⟩ := bsome h
            refine AW.regionAny [⟨[0], [59], [], []⟩, ⟨[], [60], [], []⟩, ⟨[14], [61], [], []⟩, ⟨[61], [62], [15], []⟩, ⟨[14], [63], [], []⟩, ⟨[63], [64], [15], []⟩, ⟨[60, 62, 64], [65], [], []⟩, ⟨[0], [66], [], []⟩, ⟨[66], [67], [], []⟩, ⟨[67], [68], [], []⟩, ⟨[68], [69], [0], []⟩, ⟨[65, 69], [70], [], []⟩, ⟨[59], [71], [], []⟩, ⟨[71], [72], [], []⟩, ⟨[72, 70], [], [0], [0]⟩] mixed (by kernel_rfl) <| SMp rfl <| SCl [] (c_rewrite_None _ hx31) e77 rfl <| SFd lInst_2 fl124_2 rfl <| SLd ty42 15 rfl <| SFd lInst_3 fl124_3 rfl <| SLd ty42 15 rfl <| Sc (lo [60, 62, 64] [] rfl fun S hs hr => op_call (xs := [.tmp 60, .const (Value.int IntKind.i64 1), .tmp 62, .tmp 64]) (c_rewrite_Set _ _ _ _ _ hx32) e207 rfl rfl ⟨vt ((hs 60 rfl).trans rfl), vk rfl, vt ((hs 62 rfl).trans rfl), vt ((hs 64 rfl).trans rfl), trivial⟩) rfl <| SMp rfl <| SNc rfl <| SFd lsem_packet_o4_5_2 flv144_2_4_5 rfl <| SLd ty44 0 rfl <| SCl [65, 69] (c_rewrite_Apply _ _ _ hx33) e109 rfl <| SNc rfl <| SFd lsem_packet_o4_5_2 flv144_2_4_5 rfl <| SSt ty44 0 rfl ?_
            exact ⟨(b19, b20, x33, b22), h, ⟨rfl, ⟨rfl, rfl, trivial⟩, ⟨rfl, rfl, rfl, trivial⟩⟩⟩
          · have h := cond_f hc h
            refine AW.skip ?_
            exact ⟨(b19, b20, b21, b22), h, ⟨rfl, ⟨rfl, rfl, trivial⟩, ⟨rfl, rfl, rfl, trivial⟩⟩⟩
      case hx3 =>
        refine AW.seq ?_
        obtain ⟨x34, hx34, h⟩ := bsome h
        refine Rg <| Md rfl <| Ac (op_call (xs := [.tmp 38, .const (Value.int IntKind.i64 3)]) (c_inst_Of _ _ _ hx34) e204 rfl rfl ⟨vt rfl, vk rfl, trivial⟩) rfl <| Mt2 rfl <| Ac (op_fst rfl rfl (vt rfl)) rfl <| Ac (op_snd rfl rfl (vt rfl)) rfl <| Ct rfl (op_alloc 13 rfl rfl zr124) ?_
        rintro _ ⟨g35, rfl⟩
        refine Sto ty124 13 rfl <| As rfl <| Nl <| SR <| Md rfl <| Nl <| Cn rfl (fun hc => ?_) (fun hc => ?_)
        · have h := cond_t hc h
          obtain ⟨x36, hx36, h⟩ := bsome h
          refine AW.regionAny [⟨[0], [43], [], []⟩, ⟨[0], [44], [], []⟩, ⟨[44], [45], [], []⟩, ⟨[45], [46], [], []⟩, ⟨[46], [47], [0], []⟩, ⟨[12], [48], [], []⟩, ⟨[48], [49], [13], []⟩, ⟨[47, 49], [50], [], []⟩, ⟨[43], [51], [], []⟩, ⟨[51], [52], [], []⟩, ⟨[52, 50], [], [0], [0]⟩] mixed (by kernel_rfl) <| SMp rfl <| SMp rfl <| SNc rfl <| SFd lsem_packet_o4_5_3 flv144_3_4_5 rfl <| SLd ty122 0 rfl <| SFd lInst_4 fl124_4 rfl <| SLd ty122 13 rfl <| SCl [47, 49] (c_aset_Write _ _ _ hx36) e206 rfl <| SNc rfl <| SFd lsem_packet_o4_5_3 flv144_3_4_5 rfl <| SSt ty122 0 rfl ?_
          exact ⟨(b15, b16, b17, x36), h, ⟨rfl, ⟨rfl, rfl, rfl, trivial⟩, ⟨rfl, rfl, rfl, trivial⟩⟩⟩
        · have h := cond_f hc h
          refine AW.skip ?_
          exact ⟨(b15, b16, b17, b18), h, ⟨rfl, ⟨rfl, rfl, rfl, trivial⟩, ⟨rfl, rfl, rfl, trivial⟩⟩⟩
    case hx2 =>
      refine AW.seq ?_
      obtain ⟨x37, hx37, h⟩ := bsome h
      refine Rg <| Md rfl <| Ac (op_call (xs := [.tmp 29, .const (Value.int IntKind.i64 5)]) (c_inst_Of _ _ _ hx37) e204 rfl rfl ⟨vt rfl, vk rfl, trivial⟩) rfl <| Mt2 rfl <| Ac (op_fst rfl rfl (vt rfl)) rfl <| Ac (op_snd rfl rfl (vt rfl)) rfl <| Ct rfl (op_alloc 11 rfl rfl zr124) ?_
      rintro _ ⟨g38, rfl⟩
      refine Sto ty124 11 rfl <| As rfl <| Nl <| SR <| Md rfl <| Nl <| Cn rfl (fun hc => ?_) (fun hc => ?_)
      · have h := cond_t hc h
        refine Rg <| Mp rfl <| Nc rfl <| FdA lsem_packet_o4_5_3 flv144_3_4_5 rfl <| Ac (op_store rfl rfl ty122 (vt rfl) (i := 0) rfl vnil) rfl <| Nl ?_
        exact ⟨(b11, b12, b13, []), h, ⟨rfl, ⟨rfl, rfl, rfl, trivial⟩, ⟨rfl, rfl, rfl, trivial⟩⟩⟩
      · have h := cond_f hc h
        refine AW.skip ?_
        exact ⟨(b11, b12, b13, b14), h, ⟨rfl, ⟨rfl, rfl, rfl, trivial⟩, ⟨rfl, rfl, rfl, trivial⟩⟩⟩
  case hx1 =>
    refine AW.seq ?_
    obtain ⟨x39, hx39, h⟩ := bsome h
    refine Rg <| Md rfl <| Ac (op_call (xs := [.tmp 19, .const (Value.int IntKind.i64 4)]) (c_inst_Of _ _ _ hx39) e204 rfl rfl ⟨vt rfl, vk rfl, trivial⟩) rfl <| Mt2 rfl <| Ac (op_fst rfl rfl (vt rfl)) rfl <| Ac (op_snd rfl rfl (vt rfl)) rfl <| Ct rfl (op_alloc 9 rfl rfl zr124) ?_
    rintro _ ⟨g40, rfl⟩
    refine Sto ty124 9 rfl <| As rfl <| Nl <| SR <| Md rfl <| Nl <| Cn rfl (fun hc => ?_) (fun hc => ?_)
    · have h := cond_t hc h
      obtain ⟨b41, hb41, h⟩ := bsome h
      refine Rg <| Mp rfl <| FdA lInst_4 fl124_4 rfl <| Ld ty122 9 rfl <| AOps.packF 0 2004 (fun v => (⟨p1.Switch, p1.env, p1.header, p1.set, v, v4⟩ : sem_packet_o4_5)) (by decide) rfl rfl <| AOps.packS 0 2005 (fun v2 => BoxF g2 gT ksem_packet_o4_5 (fun v => (⟨p1.Switch, p1.env, p1.header, p1.set, v, v2⟩ : sem_packet_o4_5)) 71 kOut p1.out) (by decide) rfl rfl <| Ct rfl (op_callR 0 (xs := [.tmp 24, .tmp 26]) (c_sem_packet_act _ _ _ _ _ hb41) e148 rfl rfl ⟨vt rfl, vt rfl, trivial⟩ rfl) ?_
      rintro _ ⟨_u, rfl⟩
      refine AOps.unboxS 0 2005 (by decide) rfl rfl fun v43 => AOps.unboxF 0 2004 (by decide) rfl rfl fun v42 => Nl ?_
      exact ⟨(b41.out, b41.path, b41.Switch, b41.env, b41.header, b41.set, v42, v43), h, ⟨rfl, ⟨rfl, rfl, rfl, trivial⟩, ⟨rfl, rfl, rfl, trivial⟩⟩⟩
    · have h := cond_f hc h
      refine AW.skip ?_
      exact ⟨(p1.out, p1.path, p1.Switch, p1.env, p1.header, p1.set, v3, v4), h, ⟨rfl, ⟨rfl, rfl, rfl, trivial⟩, ⟨rfl, rfl, rfl, trivial⟩⟩⟩
def F_sem_packet_through_l1 : Nat → (List Out) → (List Place) → Switch → Env → (Vector Wide 24) → (List Action) → Int → Option sem_packet
  | 0, _, _, _, _, _, _, _ => none
  | m23 + 1, l14, l16, b18, b19, b20, b21, at22 => (chk 4 at22).bind fun j24 => (F_first_Find (Vector.get b18.Tables j24) b20).bind fun x25 => (bif (!x25.2) then (appd l16 [(⟨at22, (-1)⟩ : Place)]).bind fun l26 => some (⟨b18, b19, b20, b21, l14, l26⟩ : sem_packet) else (appd l16 [(⟨at22, x25.1⟩ : Place)]).bind fun l28 => (chk 4 at22).bind fun j30 => (lget (Vector.get b18.Tables j30) x25.1).bind fun e31 => (F_sem_packet_follow (⟨b18, b19, b20, b21, l14, l28⟩ : sem_packet) at22 e31.Insts).bind fun b32 => (bif (!b32.2.1) then (F_aset_List b32.2.2.set).bind fun x35 => (F_sem_packet_act (⟨b32.2.2.Switch, b32.2.2.env, b32.2.2.header, b32.2.2.set, b32.2.2.out, b32.2.2.path⟩ : sem_packet) x35).bind fun b36 => some (⟨b36.Switch, b36.env, b36.header, b36.set, b36.out, b36.path⟩ : sem_packet) else (F_sem_packet_through_l1 m23) b32.2.2.out b32.2.2.path b32.2.2.Switch b32.2.2.env b32.2.2.header b32.2.2.set b32.1))
def F_sem_packet_through (p1 : sem_packet) : Option sem_packet :=
  F_sem_packet_through_l1 fuel0 p1.out p1.path p1.Switch p1.env p1.header p1.set 0
theorem c_sem_packet_through (g2 gT : Nat) (p1 : sem_packet) (r : sem_packet) (h : F_sem_packet_through p1 = some r) : Con Tryz.prog 86 [ptrL g2 (Lens.id ksem_packet_o4_5)] (Star (fun v2 => BoxF g2 gT ksem_packet_o4_5 (fun v => (⟨p1.Switch, p1.env, p1.header, p1.set, v, v2⟩ : sem_packet_o4_5)) 71 kOut p1.out) 51 kPlace p1.path) (fun _ : Unit => top) (fun _ => Star (fun v2 => BoxF g2 gT ksem_packet_o4_5 (fun v => (⟨r.Switch, r.env, r.header, r.set, v, v2⟩ : sem_packet_o4_5)) 71 kOut r.out) 51 kPlace r.path) := by
  refine Con.intro Tryz.func86 rfl Tryz.ntmps86 rfl fun w H X => ?_
  unfold F_sem_packet_through at h
  refine AW.unboxS 0 2005 (by decide) rfl rfl fun v4 => AW.unboxF 0 2004 (by decide) rfl rfl fun v3 => AW.scope <| SR <| Ak rfl <| Nl <| AW.seq <| AW.label <| AW.block <| AW.loopG (d := []) (ν := Nat × (List Out) × (List Place) × Switch × Env × (Vector Wide 24) × (List Action) × Int × Value × Value) (fun n => True ∧ F_sem_packet_through_l1 n.1 n.2.1 n.2.2.1 n.2.2.2.1 n.2.2.2.2.1 n.2.2.2.2.2.1 n.2.2.2.2.2.2.1 n.2.2.2.2.2.2.2.1 = some r) (fun n => n.1) (fun n => [(0, ptrL g2 (Lens.id ksem_packet_o4_5)), (2, rd (kint .i64) n.2.2.2.2.2.2.2.1)]) (fun n => [(0, Blk g2 gT ksem_packet_o4_5 (⟨n.2.2.2.1, n.2.2.2.2.1, n.2.2.2.2.2.1, n.2.2.2.2.2.2.1, n.2.2.2.2.2.2.2.2.1, n.2.2.2.2.2.2.2.2.2⟩ : sem_packet_o4_5)), (2004, Row n.2.2.2.2.2.2.2.2.1 71 kOut n.2.1), (2005, Row n.2.2.2.2.2.2.2.2.2 51 kPlace n.2.2.1)]) (fuel0, p1.out, p1.path, p1.Switch, p1.env, p1.header, p1.set, 0, v3, v4) ⟨trivial, h⟩ ⟨rfl, ⟨rfl, rfl, trivial⟩, ⟨rfl, rfl, rfl, trivial⟩⟩ ?_
  rintro ⟨m23, l14, l16, b18, b19, b20, b21, at22, v15, v17⟩ ⟨hsf1, h⟩
  change True at hsf1
  change F_sem_packet_through_l1 m23 l14 l16 b18 b19 b20 b21 at22 = some r at h
  change AW _ _ _ ⟨slots [(0, ptrL g2 (Lens.id ksem_packet_o4_5)), (2, rd (kint .i64) at22)], ress [(0, Blk g2 gT ksem_packet_o4_5 (⟨b18, b19, b20, b21, v15, v17⟩ : sem_packet_o4_5)), (2004, Row v15 71 kOut l14), (2005, Row v17 51 kPlace l16)], _⟩
  cases m23 with
  | zero => cases h
  | succ m23 =>
    unfold F_sem_packet_through_l1 at h
    generalize hgo1 : F_sem_packet_through_l1 m23 = go1 at h
    refine AW.block <| AW.seq ?_
    obtain ⟨j24, hj24, h⟩ := bsome h
    obtain ⟨x25, hx25, h⟩ := bsome h
    refine AW.regionAny [⟨[0], [8], [], []⟩, ⟨[2], [9], [], []⟩, ⟨[8], [10], [], []⟩, ⟨[10], [11], [], []⟩, ⟨[11], [12], [], []⟩, ⟨[12, 9], [13], [], []⟩, ⟨[13], [14], [0], []⟩, ⟨[0], [15], [], []⟩, ⟨[15], [16], [], []⟩, ⟨[16], [17], [], []⟩, ⟨[17], [18], [0], []⟩, ⟨[14, 18], [19], [], []⟩, ⟨[19], [7], [], []⟩, ⟨[7], [20], [], []⟩, ⟨[7], [21], [], []⟩, ⟨[20], [3], [], []⟩, ⟨[21], [4], [], []⟩] mixed (by kernel_rfl) <| SMp rfl <| SMd rfl <| SNc rfl <| SFd lsem_packet_o4_5_0 flv144_0_4_5 rfl <| SFd lSwitch_0 fl26_0 rfl <| Sc (lo [12, 9] [] rfl fun S hs hr => op_index' rfl rfl ar23 (vh hs 12 rfl rfl) (vh hs 9 rfl rfl) hj24) rfl <| SLd ty22 0 rfl <| SMp rfl <| SNc rfl <| SFd lsem_packet_o4_5_2 flv144_2_4_5 rfl <| SLd ty44 0 rfl <| SCl [14, 18] (c_first_Find _ _ _ hx25) e34 rfl <| Sc (lo [19] [] rfl fun S hs hr => op_move (A := tup2 (rd (kint .i64) x25.1) (rd kbool x25.2)) rfl rfl (vh hs 19 rfl rfl)) rfl <| Sc (lo [7] [] rfl fun S hs hr => op_fst rfl rfl (vh hs 7 rfl rfl)) rfl <| Sc (lo [7] [] rfl fun S hs hr => op_snd rfl rfl (vh hs 7 rfl rfl)) rfl <| SAs rfl <| SAs rfl <| AW.seq <| SR <| Md rfl <| Ac (op_not rfl rfl (vt rfl)) rfl <| Nl <| Cn rfl (fun hc => ?_) (fun hc => ?_)
    · have h := cond_t hc h
      refine AW.seq ?_
      obtain ⟨l26, hl26, h⟩ := bsome h
      refine Rg <| Mp rfl <| Mp rfl <| Nc rfl <| FdA lsem_packet_o4_5_5 flv144_5_4_5 rfl <| Ac (op_loadv v17 rfl rfl tyr49 (vt rfl) (i := 0) rfl rfl) rfl <| Md rfl <| Ac (op_build (ps := [(0, .tmp 29), (1, .const (Value.int IntKind.i64 (-1)))]) (x := (⟨at22, (-1)⟩ : Place)) rfl rfl rfl (by kernel_rfl) zr51 ⟨_, _, lPlace_0, _, by kernel_rfl, (vt rfl), _, _, lPlace_1, _, by kernel_rfl, (vk rfl), rfl⟩) rfl <| Ac (op_buildSliceR (ps := [(0, .tmp 30)]) (l := [(⟨at22, (-1)⟩ : Place)]) rfl rfl sl49 zr51 rfl rfl ⟨_, _, Lens.idx 1 kPlace 0 (by decide), _, rfl, (vt rfl), rfl⟩ rfl) rfl <| Ct rfl (op_append' 2005 hl26 rfl rfl el49 (vt rfl) rfl (vt rfl)) ?_
      rintro _ ⟨v27, rfl⟩
      refine Nc rfl <| FdA lsem_packet_o4_5_5 flv144_5_4_5 rfl <| Ac (op_store rfl rfl tyr49 (vt rfl) (i := 0) rfl (vrow (i := 2005) rfl rfl)) rfl <| Nl <| AW.exit ?_
      obtain rfl := si h
      exact RetOK.turn (Turn.packF 0 2004 (fun v => (⟨b18, b19, b20, b21, v, v27⟩ : sem_packet_o4_5)) (by decide) rfl rfl) (RetOK.turn (Turn.packS 0 2005 (fun v2 => BoxF g2 gT ksem_packet_o4_5 (fun v => (⟨b18, b19, b20, b21, v, v2⟩ : sem_packet_o4_5)) 71 kOut l14) (by decide) rfl rfl) (ret0Y (i := 0) Tryz.results86 rfl rfl))
    · have h := cond_f hc h
      refine AW.skip <| AW.seq ?_
      obtain ⟨l28, hl28, h⟩ := bsome h
      refine Rg <| Mp rfl <| Mp rfl <| Nc rfl <| FdA lsem_packet_o4_5_5 flv144_5_4_5 rfl <| Ac (op_loadv v17 rfl rfl tyr49 (vt rfl) (i := 0) rfl rfl) rfl <| Md rfl <| Md rfl <| Ac (op_build (ps := [(0, .tmp 40), (1, .tmp 41)]) (x := (⟨at22, x25.1⟩ : Place)) rfl rfl rfl (by kernel_rfl) zr51 ⟨_, _, lPlace_0, _, by kernel_rfl, (vt rfl), _, _, lPlace_1, _, by kernel_rfl, (vt rfl), rfl⟩) rfl <| Ac (op_buildSliceR (ps := [(0, .tmp 42)]) (l := [(⟨at22, x25.1⟩ : Place)]) rfl rfl sl49 zr51 rfl rfl ⟨_, _, Lens.idx 1 kPlace 0 (by decide), _, rfl, (vt rfl), rfl⟩ rfl) rfl <| Ct rfl (op_append' 2005 hl28 rfl rfl el49 (vt rfl) rfl (vt rfl)) ?_
      rintro _ ⟨v29, rfl⟩
      refine Nc rfl <| FdA lsem_packet_o4_5_5 flv144_5_4_5 rfl <| Ac (op_store rfl rfl tyr49 (vt rfl) (i := 0) rfl (vrow (i := 2005) rfl rfl)) rfl <| Nl <| AW.seq ?_
      obtain ⟨j30, hj30, h⟩ := bsome h
      obtain ⟨e31, he31, h⟩ := bsome h
      obtain ⟨b32, hb32, h⟩ := bsome h
      refine Rg <| Mp rfl <| Md rfl <| Mp rfl <| Md rfl <| Nc rfl <| FdA lsem_packet_o4_5_0 flv144_0_4_5 rfl <| FdA lSwitch_0 fl26_0 rfl <| Ac (op_index' rfl rfl ar23 (vt rfl) (vt rfl) hj30) rfl <| Ld ty22 0 rfl <| Md rfl <| Ac (op_indexs' rfl rfl sl22 (vt rfl) (vt rfl) he31) rfl <| Fp lFlow_6 fl61_6 rfl <| Lp1 ty59 rfl <| AOps.packF 0 2004 (fun v => (⟨b18, b19, b20, b21, v, v29⟩ : sem_packet_o4_5)) (by decide) rfl rfl <| AOps.packS 0 2005 (fun v2 => BoxF g2 gT ksem_packet_o4_5 (fun v => (⟨b18, b19, b20, b21, v, v2⟩ : sem_packet_o4_5)) 71 kOut l14) (by decide) rfl rfl <| Ct rfl (op_callR 0 (xs := [.tmp 48, .tmp 49, .tmp 60]) (c_sem_packet_follow _ _ _ _ _ _ hb32) e147 rfl rfl ⟨vt rfl, vt rfl, vt rfl, trivial⟩ rfl) ?_
      rintro _ ⟨_u, rfl⟩
      refine AOps.unboxS 0 2005 (by decide) rfl rfl fun v34 => AOps.unboxF 0 2004 (by decide) rfl rfl fun v33 => Mt2 rfl <| Ac (op_fst rfl rfl (vt rfl)) rfl <| Ac (op_snd rfl rfl (vt rfl)) rfl <| As rfl <| As rfl <| Nl <| AW.seq <| SR <| Md rfl <| Ac (op_not rfl rfl (vt rfl)) rfl <| Nl <| Cn rfl (fun hc => ?_) (fun hc => ?_)
      · have h := cond_t hc h
        refine AW.seq ?_
        obtain ⟨x35, hx35, h⟩ := bsome h
        obtain ⟨b36, hb36, h⟩ := bsome h
        refine Rg <| Mp rfl <| Mp rfl <| Nc rfl <| FdA lsem_packet_o4_5_3 flv144_3_4_5 rfl <| Ld ty122 0 rfl <| Cl [70] (c_aset_List _ _ hx35) e149 rfl <| AOps.packF 0 2004 (fun v => (⟨b32.2.2.Switch, b32.2.2.env, b32.2.2.header, b32.2.2.set, v, v34⟩ : sem_packet_o4_5)) (by decide) rfl rfl <| AOps.packS 0 2005 (fun v2 => BoxF g2 gT ksem_packet_o4_5 (fun v => (⟨b32.2.2.Switch, b32.2.2.env, b32.2.2.header, b32.2.2.set, v, v2⟩ : sem_packet_o4_5)) 71 kOut b32.2.2.out) (by decide) rfl rfl <| Ct rfl (op_callR 0 (xs := [.tmp 66, .tmp 71]) (c_sem_packet_act _ _ _ _ _ hb36) e148 rfl rfl ⟨vt rfl, vt rfl, trivial⟩ rfl) ?_
        rintro _ ⟨_u, rfl⟩
        refine AOps.unboxS 0 2005 (by decide) rfl rfl fun v38 => AOps.unboxF 0 2004 (by decide) rfl rfl fun v37 => Nl <| AW.exit ?_
        obtain rfl := si h
        exact RetOK.turn (Turn.packF 0 2004 (fun v => (⟨b36.Switch, b36.env, b36.header, b36.set, v, v38⟩ : sem_packet_o4_5)) (by decide) rfl rfl) (RetOK.turn (Turn.packS 0 2005 (fun v2 => BoxF g2 gT ksem_packet_o4_5 (fun v => (⟨b36.Switch, b36.env, b36.header, b36.set, v, v2⟩ : sem_packet_o4_5)) 71 kOut b36.out) (by decide) rfl rfl) (ret0Y (i := 0) Tryz.results86 rfl rfl))
      · have h := cond_f hc h
        refine AW.skip <| Rg <| Md rfl <| As rfl <| Nl ?_
        subst hgo1
        exact ⟨(m23, b32.2.2.out, b32.2.2.path, b32.2.2.Switch, b32.2.2.env, b32.2.2.header, b32.2.2.set, b32.1, v33, v34), Nat.lt_succ_self _, ⟨trivial, h⟩, ⟨rfl, ⟨rfl, rfl, trivial⟩, ⟨rfl, rfl, rfl, trivial⟩⟩⟩
def F_sem_Out (s1 : Switch) (e2 : Env) (h3 : (Vector Wide 24)) : Option (List Out) :=
  (F_sem_packet_through (⟨s1, e2, h3, [], [], []⟩ : sem_packet)).bind fun b8 => some b8.out
theorem c_sem_Out (s1 : Switch) (e2 : Env) (h3 : (Vector Wide 24)) (r : (List Out)) (h : F_sem_Out s1 e2 h3 = some r) : PCon Tryz.prog 29 [rd kSwitch s1, rd kEnv e2, rd (karr 24 kWide) h3] (rd (ksl kOut) r) := by
  refine PCon.of (Con.intro0 Tryz.func29 rfl Tryz.ntmps29 rfl fun w H => ?_)
  unfold F_sem_Out at h
  refine SR <| Ct rfl (op_box 4 rfl rfl (vt rfl)) ?_
  rintro _ ⟨g4, rfl⟩
  refine Ct rfl (op_box 5 rfl rfl (vt rfl)) ?_
  rintro _ ⟨g5, rfl⟩
  refine Ct rfl (op_box 6 rfl rfl (vt rfl)) ?_
  rintro _ ⟨g6, rfl⟩
  refine Ac (op_assign (A := rd (ksl kOut) []) rfl rfl vnil) rfl <| Nl <| AW.seq <| AW.newnil 2264 71 kOut <| AW.newnil 2265 51 kPlace <| Rg <| Ld ty26 4 rfl <| Ld ty39 5 rfl <| Ld ty44 6 rfl <| Ac (op_build (ps := [(0, .tmp 8), (1, .tmp 9), (2, .tmp 10)]) (x := (⟨s1, e2, h3, [], (.slice none 0 0), (.slice none 0 0)⟩ : sem_packet_o4_5)) rfl rfl rfl (by kernel_rfl) zrv144_4_5 ⟨_, _, lsem_packet_o4_5_0, _, by kernel_rfl, (vt rfl), _, _, lsem_packet_o4_5_1, _, by kernel_rfl, (vt rfl), _, _, lsem_packet_o4_5_2, _, by kernel_rfl, (vt rfl), rfl⟩) rfl <| Ct rfl (op_box 13 rfl rfl (vt rfl)) ?_
  rintro _ ⟨g7, rfl⟩
  refine Ac (op_assign (A := ptrL g7 (Lens.id ksem_packet_o4_5)) rfl rfl (vt rfl)) rfl <| Nl <| AW.seq ?_
  obtain ⟨b8, hb8, h⟩ := bsome h
  refine Rg <| Mp rfl <| AOps.packF 13 2264 (fun v => (⟨s1, e2, h3, [], v, (.slice none 0 0)⟩ : sem_packet_o4_5)) (by decide) rfl rfl <| AOps.packS 13 2265 (fun v2 => BoxF g7 144 ksem_packet_o4_5 (fun v => (⟨s1, e2, h3, [], v, v2⟩ : sem_packet_o4_5)) 71 kOut []) (by decide) rfl rfl <| Ct rfl (op_callR 13 (xs := [.tmp 13]) (c_sem_packet_through _ _ _ _ hb8) e86 rfl rfl ⟨vt rfl, trivial⟩ rfl) ?_
  rintro _ ⟨_u, rfl⟩
  refine AOps.unboxS 13 2265 (by decide) rfl rfl fun v10 => AOps.unboxF 13 2264 (by decide) rfl rfl fun v9 => Nl <| SR <| Mp rfl <| Nc rfl <| FdA lsem_packet_o4_5_4 flv144_4_4_5 rfl <| Ac (op_loadv v9 rfl rfl tyr46 (vt rfl) (i := 13) rfl rfl) rfl <| Aw rfl <| Nl <| AW.freezes [6, 18] 2264 rfl ⟨rfl, rfl, trivial⟩ rfl <| AW.ret ?_
  obtain rfl := si h
  exact ret1 Tryz.results29 rfl (out_tmp rfl)
def F_sem_Path (s1 : Switch) (h2 : (Vector Wide 24)) : Option (List Place) :=
  (F_sem_packet_through (⟨s1, zEnv, h2, [], [], []⟩ : sem_packet)).bind fun b6 => some b6.path
theorem c_sem_Path (s1 : Switch) (h2 : (Vector Wide 24)) (r : (List Place)) (h : F_sem_Path s1 h2 = some r) : PCon Tryz.prog 32 [rd kSwitch s1, rd (karr 24 kWide) h2] (rd (ksl kPlace) r) := by
  refine PCon.of (Con.intro0 Tryz.func32 rfl Tryz.ntmps32 rfl fun w H => ?_)
  unfold F_sem_Path at h
  refine SR <| Ct rfl (op_box 3 rfl rfl (vt rfl)) ?_
  rintro _ ⟨g3, rfl⟩
  refine Ct rfl (op_box 4 rfl rfl (vt rfl)) ?_
  rintro _ ⟨g4, rfl⟩
  refine Ac (op_assign (A := rd (ksl kPlace) []) rfl rfl vnil) rfl <| Nl <| AW.seq <| AW.newnil 2204 71 kOut <| AW.newnil 2205 51 kPlace <| Rg <| Ld ty26 3 rfl <| Ld ty44 4 rfl <| Ac (op_build (ps := [(0, .tmp 6), (2, .tmp 7)]) (x := (⟨s1, zEnv, h2, [], (.slice none 0 0), (.slice none 0 0)⟩ : sem_packet_o4_5)) rfl rfl rfl (by kernel_rfl) zrv144_4_5 ⟨_, _, lsem_packet_o4_5_0, _, by kernel_rfl, (vt rfl), _, _, lsem_packet_o4_5_2, _, by kernel_rfl, (vt rfl), rfl⟩) rfl <| Ct rfl (op_box 10 rfl rfl (vt rfl)) ?_
  rintro _ ⟨g5, rfl⟩
  refine Ac (op_assign (A := ptrL g5 (Lens.id ksem_packet_o4_5)) rfl rfl (vt rfl)) rfl <| Nl <| AW.seq ?_
  obtain ⟨b6, hb6, h⟩ := bsome h
  refine Rg <| Mp rfl <| AOps.packF 10 2204 (fun v => (⟨s1, zEnv, h2, [], v, (.slice none 0 0)⟩ : sem_packet_o4_5)) (by decide) rfl rfl <| AOps.packS 10 2205 (fun v2 => BoxF g5 144 ksem_packet_o4_5 (fun v => (⟨s1, zEnv, h2, [], v, v2⟩ : sem_packet_o4_5)) 71 kOut []) (by decide) rfl rfl <| Ct rfl (op_callR 10 (xs := [.tmp 10]) (c_sem_packet_through _ _ _ _ hb6) e86 rfl rfl ⟨vt rfl, trivial⟩ rfl) ?_
  rintro _ ⟨_u, rfl⟩
  refine AOps.unboxS 10 2205 (by decide) rfl rfl fun v8 => AOps.unboxF 10 2204 (by decide) rfl rfl fun v7 => Nl <| SR <| Mp rfl <| Nc rfl <| FdA lsem_packet_o4_5_5 flv144_5_4_5 rfl <| Ac (op_loadv v8 rfl rfl tyr49 (vt rfl) (i := 10) rfl rfl) rfl <| Aw rfl <| Nl <| AW.freezes [4, 15] 2205 rfl ⟨rfl, rfl, trivial⟩ rfl <| AW.ret ?_
  obtain rfl := si h
  exact ret1 Tryz.results32 rfl (out_tmp rfl)
def F_slices_Equal_Place_l1 (s11 : (List Place)) (s22 : (List Place)) : Nat → Nat → Option Bool
  | 0, i3 => some true
  | m4 + 1, i3 => (lget s11 (i3 : Int)).bind fun e5 => (lget s22 (i3 : Int)).bind fun e6 => (bif (decide (e5 ≠ e6)) then some false else (F_slices_Equal_Place_l1 s11 s22 m4) (i3 + 1))
def F_slices_Equal_Place (s11 : (List Place)) (s22 : (List Place)) : Option Bool :=
  (bif (decide ((s11.length : Int) ≠ (s22.length : Int))) then some false else F_slices_Equal_Place_l1 s11 s22 ((s11.length : Int) : Int).toNat 0)
theorem c_slices_Equal_Place (s11 : (List Place)) (s22 : (List Place)) (r : Bool) (h : F_slices_Equal_Place s11 s22 = some r) : PCon Tryz.prog 31 [rd (ksl kPlace) s11, rd (ksl kPlace) s22] (rd kbool r) := by
  refine PCon.of (Con.intro0 Tryz.func31 rfl Tryz.ntmps31 rfl fun w H => ?_)
  unfold F_slices_Equal_Place at h
  refine SR <| Ab rfl <| Nl <| AW.seq <| SR <| Md rfl <| Ac (op_len' rfl rfl sl49 (vt rfl)) rfl <| Md rfl <| Ac (op_len' rfl rfl sl49 (vt rfl)) rfl <| Ac (op_neq rfl rfl (vt rfl) (vt rfl)) rfl <| Nl <| Cn rfl (fun hc => ?_) (fun hc => ?_)
  · have h := cond_t hc h
    refine SR <| Ab rfl <| Nl <| AW.ret ?_
    obtain rfl := si h
    exact ret1 Tryz.results31 rfl (out_tmp rfl)
  · have h := cond_f hc h
    refine AW.skip <| AW.seq <| SR <| Md rfl <| Ac (op_len' rfl rfl sl49 (vt rfl)) rfl <| Mk rfl <| Nl <| AW.block <| AW.loopG (d := []) (ν := Nat × Nat) (fun n => Cnt (s11.length : Int) n.2 n.1 ∧ F_slices_Equal_Place_l1 s11 s22 n.1 n.2 = some r) (fun n => n.1) (fun n => [(0, rd (ksl kPlace) s11), (1, rd (ksl kPlace) s22), (12, rd (kint .i64) (s11.length : Int)), (13, rd (kint .i64) (n.2 : Int))]) (fun n => []) (((s11.length : Int) : Int).toNat, 0) ⟨Cnt.start _, h⟩ ⟨rfl, ⟨rfl, rfl, rfl, rfl, trivial⟩, trivial⟩ ?_
    rintro ⟨m4, i3⟩ ⟨hsf1, h⟩
    change Cnt (s11.length : Int) i3 m4 at hsf1
    change F_slices_Equal_Place_l1 s11 s22 m4 i3 = some r at h
    change AW _ _ _ ⟨slots [(0, rd (ksl kPlace) s11), (1, rd (ksl kPlace) s22), (12, rd (kint .i64) (s11.length : Int)), (13, rd (kint .i64) (i3 : Int))], ress [], _⟩
    cases m4 with
    | zero =>
      unfold F_slices_Equal_Place_l1 at h
      refine SR <| Ac (op_lss rfl rfl (vt rfl) (vt rfl)) rfl <| Nl <| AW.seq <| Cn rfl (fun hc => absurd (of_decide_eq_true hc) hsf1.zero) (fun hc => ?_)
      refine AW.exit <| SR <| Ab rfl <| Nl <| AW.ret ?_
      obtain rfl := si h
      exact ret1 Tryz.results31 rfl (out_tmp rfl)
    | succ m4 =>
      unfold F_slices_Equal_Place_l1 at h
      generalize hgo1 : F_slices_Equal_Place_l1 s11 s22 m4 = go1 at h
      refine SR <| Ac (op_lss rfl rfl (vt rfl) (vt rfl)) rfl <| Nl <| AW.seq <| Cn rfl (fun hc => ?_) (fun hc => absurd hsf1.succ (of_decide_eq_false hc))
      have hlti3 := of_decide_eq_true hc
      refine AW.skip <| AW.seq <| AW.block <| SR <| Md rfl <| As rfl <| Nl <| AW.seq ?_
      obtain ⟨e5, he5, h⟩ := bsome h
      obtain ⟨e6, he6, h⟩ := bsome h
      refine AW.regionAny [⟨[0], [16], [], []⟩, ⟨[5], [17], [], []⟩, ⟨[16, 17], [18], [], []⟩, ⟨[18], [19], [], []⟩, ⟨[1], [20], [], []⟩, ⟨[5], [21], [], []⟩, ⟨[20, 21], [22], [], []⟩, ⟨[22], [23], [], []⟩, ⟨[19, 23], [24], [], []⟩] mixed (by kernel_rfl) <| SMd rfl <| SMd rfl <| Sc (lo [16, 17] [] rfl fun S hs hr => op_indexs' rfl rfl sl49 (vh hs 16 rfl rfl) (vh hs 17 rfl rfl) he5) rfl <| SLp ty51 rfl <| SMd rfl <| SMd rfl <| Sc (lo [20, 21] [] rfl fun S hs hr => op_indexs' rfl rfl sl49 (vh hs 20 rfl rfl) (vh hs 21 rfl rfl) he6) rfl <| SLp ty51 rfl <| Sc (lo [19, 23] [] rfl fun S hs hr => op_neqk rfl rfl eqk51 (by decide) rfl eg51 (vh hs 19 rfl rfl) (vh hs 23 rfl rfl)) rfl <| Cn rfl (fun hc => ?_) (fun hc => ?_)
      · have h := cond_t hc h
        refine SR <| Ab rfl <| Nl <| AW.ret ?_
        obtain rfl := si h
        exact ret1 Tryz.results31 rfl (out_tmp rfl)
      · have h := cond_f hc h
        refine AW.skip <| Rg <| Ac (op_incr (t := 12) rfl rfl (vt rfl) (vk rfl) (vt rfl) hlti3) rfl <| Md rfl <| Nl ?_
        subst hgo1
        exact ⟨(m4, i3 + 1), Nat.lt_succ_self _, ⟨hsf1.next, h⟩, ⟨rfl, ⟨rfl, rfl, rfl, rfl, trivial⟩, trivial⟩⟩
def F_l31_awake : Option Bool :=
  (F_sem_Out { { (⟨(Vector.replicate 4 []), []⟩ : Switch) with Tables := (Vector.set ((⟨(Vector.replicate 4 []), []⟩ : Switch).Tables) (⟨0, by decide⟩ : _root_.Fin 4).1 [(⟨0, 0, 0, 0, 0, [], [(⟨1, 2, zWide, zWide, []⟩ : Inst), (⟨3, 0, zWide, zWide, [(⟨0, 9, 0, 0, 0, zOxm⟩ : Action)]⟩ : Inst)]⟩ : Flow)] (⟨0, by decide⟩ : _root_.Fin 4).2) } with Tables := (Vector.set ({ (⟨(Vector.replicate 4 []), []⟩ : Switch) with Tables := (Vector.set ((⟨(Vector.replicate 4 []), []⟩ : Switch).Tables) (⟨0, by decide⟩ : _root_.Fin 4).1 [(⟨0, 0, 0, 0, 0, [], [(⟨1, 2, zWide, zWide, []⟩ : Inst), (⟨3, 0, zWide, zWide, [(⟨0, 9, 0, 0, 0, zOxm⟩ : Action)]⟩ : Inst)]⟩ : Flow)] (⟨0, by decide⟩ : _root_.Fin 4).2) }.Tables) (⟨2, by decide⟩ : _root_.Fin 4).1 [(⟨0, 0, 0, 0, 0, [], [(⟨4, 0, zWide, zWide, [(⟨0, 8, 0, 0, 0, zOxm⟩ : Action)]⟩ : Inst)]⟩ : Flow)] (⟨2, by decide⟩ : _root_.Fin 4).2) } (⟨0, []⟩ : Env) (Vector.replicate 24 zWide)).bind fun x2 => (opt (decide ((x2.length : Int) = 2)) (lget x2 0)).bind fun e3 => (opt ((decide ((x2.length : Int) = 2)) && (decide (e3.Port = 8))) (lget x2 1)).bind fun e4 => (opt (((decide ((x2.length : Int) = 2)) && (decide (e3.Port = 8))) && (decide (e4.Port = 9))) (F_sem_Path { { (⟨(Vector.replicate 4 []), []⟩ : Switch) with Tables := (Vector.set ((⟨(Vector.replicate 4 []), []⟩ : Switch).Tables) (⟨0, by decide⟩ : _root_.Fin 4).1 [(⟨0, 0, 0, 0, 0, [], [(⟨1, 2, zWide, zWide, []⟩ : Inst), (⟨3, 0, zWide, zWide, [(⟨0, 9, 0, 0, 0, zOxm⟩ : Action)]⟩ : Inst)]⟩ : Flow)] (⟨0, by decide⟩ : _root_.Fin 4).2) } with Tables := (Vector.set ({ (⟨(Vector.replicate 4 []), []⟩ : Switch) with Tables := (Vector.set ((⟨(Vector.replicate 4 []), []⟩ : Switch).Tables) (⟨0, by decide⟩ : _root_.Fin 4).1 [(⟨0, 0, 0, 0, 0, [], [(⟨1, 2, zWide, zWide, []⟩ : Inst), (⟨3, 0, zWide, zWide, [(⟨0, 9, 0, 0, 0, zOxm⟩ : Action)]⟩ : Inst)]⟩ : Flow)] (⟨0, by decide⟩ : _root_.Fin 4).2) }.Tables) (⟨2, by decide⟩ : _root_.Fin 4).1 [(⟨0, 0, 0, 0, 0, [], [(⟨4, 0, zWide, zWide, [(⟨0, 8, 0, 0, 0, zOxm⟩ : Action)]⟩ : Inst)]⟩ : Flow)] (⟨2, by decide⟩ : _root_.Fin 4).2) } (Vector.replicate 24 zWide))).bind fun x5 => (opt (((decide ((x2.length : Int) = 2)) && (decide (e3.Port = 8))) && (decide (e4.Port = 9))) (F_slices_Equal_Place x5 [(⟨0, 0⟩ : Place), (⟨2, 0⟩ : Place)])).bind fun x6 => some ((((decide ((x2.length : Int) = 2)) && (decide (e3.Port = 8))) && (decide (e4.Port = 9))) && x6)
theorem c_l31_awake (r : Bool) (h : F_l31_awake = some r) : PCon Tryz.prog 27 [] (rd kbool r) := by
  refine PCon.of (Con.intro0 Tryz.func27 rfl Tryz.ntmps27 rfl fun w H => ?_)
  unfold F_l31_awake at h
  refine SR <| Ab rfl <| Nl <| SR <| Ac (op_build (ps := []) (x := (⟨(Vector.replicate 4 []), []⟩ : Switch)) rfl rfl rfl (by kernel_rfl) zr26 rfl) rfl <| Ct rfl (op_alloc 2 rfl rfl zr26) ?_
  rintro _ ⟨g1, rfl⟩
  refine Sto ty26 2 rfl <| Nl <| SR <| Ac (op_build (ps := [(0, .const (Value.int IntKind.i64 1)), (1, .const (Value.int IntKind.i64 2))]) (x := (⟨1, 2, zWide, zWide, []⟩ : Inst)) rfl rfl rfl (by kernel_rfl) zr124 ⟨_, _, lInst_0, _, by kernel_rfl, (vk rfl), _, _, lInst_1, _, by kernel_rfl, (vk rfl), rfl⟩) rfl <| Ac (op_build (ps := [(0, .const (Value.int IntKind.i64 0)), (1, .const (Value.int IntKind.i64 9))]) (x := (⟨0, 9, 0, 0, 0, zOxm⟩ : Action)) rfl rfl rfl (by kernel_rfl) zr121 ⟨_, _, lAction_0, _, by kernel_rfl, (vk rfl), _, _, lAction_1, _, by kernel_rfl, (vk rfl), rfl⟩) rfl <| Ac (op_buildSliceR (ps := [(0, .tmp 5)]) (l := [(⟨0, 9, 0, 0, 0, zOxm⟩ : Action)]) rfl rfl sl122 zr121 rfl rfl ⟨_, _, Lens.idx 1 kAction 0 (by decide), _, rfl, (vt rfl), rfl⟩ rfl) rfl <| Ac (op_build (ps := [(0, .const (Value.int IntKind.i64 3)), (4, .tmp 6)]) (x := (⟨3, 0, zWide, zWide, [(⟨0, 9, 0, 0, 0, zOxm⟩ : Action)]⟩ : Inst)) rfl rfl rfl (by kernel_rfl) zr124 ⟨_, _, lInst_0, _, by kernel_rfl, (vk rfl), _, _, lInst_4, _, by kernel_rfl, (vt rfl), rfl⟩) rfl <| Ac (op_buildSliceR (ps := [(0, .tmp 4), (1, .tmp 7)]) (l := [(⟨1, 2, zWide, zWide, []⟩ : Inst), (⟨3, 0, zWide, zWide, [(⟨0, 9, 0, 0, 0, zOxm⟩ : Action)]⟩ : Inst)]) rfl rfl sl59 zr124 rfl rfl ⟨_, _, Lens.idx 2 kInst 0 (by decide), _, rfl, (vt rfl), _, _, Lens.idx 2 kInst 1 (by decide), _, rfl, (vt rfl), rfl⟩ rfl) rfl <| Ac (op_build (ps := [(6, .tmp 8)]) (x := (⟨0, 0, 0, 0, 0, [], [(⟨1, 2, zWide, zWide, []⟩ : Inst), (⟨3, 0, zWide, zWide, [(⟨0, 9, 0, 0, 0, zOxm⟩ : Action)]⟩ : Inst)]⟩ : Flow)) rfl rfl rfl (by kernel_rfl) zr61 ⟨_, _, lFlow_6, _, by kernel_rfl, (vt rfl), rfl⟩) rfl <| Ac (op_buildSliceR (ps := [(0, .tmp 9)]) (l := [(⟨0, 0, 0, 0, 0, [], [(⟨1, 2, zWide, zWide, []⟩ : Inst), (⟨3, 0, zWide, zWide, [(⟨0, 9, 0, 0, 0, zOxm⟩ : Action)]⟩ : Inst)]⟩ : Flow)]) rfl rfl sl22 zr61 rfl rfl ⟨_, _, Lens.idx 1 kFlow 0 (by decide), _, rfl, (vt rfl), rfl⟩ rfl) rfl <| FdA lSwitch_0 fl26_0 rfl <| Ac (op_index' rfl rfl ar23 (vt rfl) (vk rfl) rfl) rfl <| Sto ty22 2 rfl <| Nl <| SR <| Ac (op_build (ps := [(0, .const (Value.int IntKind.i64 0)), (1, .const (Value.int IntKind.i64 8))]) (x := (⟨0, 8, 0, 0, 0, zOxm⟩ : Action)) rfl rfl rfl (by kernel_rfl) zr121 ⟨_, _, lAction_0, _, by kernel_rfl, (vk rfl), _, _, lAction_1, _, by kernel_rfl, (vk rfl), rfl⟩) rfl <| Ac (op_buildSliceR (ps := [(0, .tmp 13)]) (l := [(⟨0, 8, 0, 0, 0, zOxm⟩ : Action)]) rfl rfl sl122 zr121 rfl rfl ⟨_, _, Lens.idx 1 kAction 0 (by decide), _, rfl, (vt rfl), rfl⟩ rfl) rfl <| Ac (op_build (ps := [(0, .const (Value.int IntKind.i64 4)), (4, .tmp 14)]) (x := (⟨4, 0, zWide, zWide, [(⟨0, 8, 0, 0, 0, zOxm⟩ : Action)]⟩ : Inst)) rfl rfl rfl (by kernel_rfl) zr124 ⟨_, _, lInst_0, _, by kernel_rfl, (vk rfl), _, _, lInst_4, _, by kernel_rfl, (vt rfl), rfl⟩) rfl <| Ac (op_buildSliceR (ps := [(0, .tmp 15)]) (l := [(⟨4, 0, zWide, zWide, [(⟨0, 8, 0, 0, 0, zOxm⟩ : Action)]⟩ : Inst)]) rfl rfl sl59 zr124 rfl rfl ⟨_, _, Lens.idx 1 kInst 0 (by decide), _, rfl, (vt rfl), rfl⟩ rfl) rfl ?_
  refine Ac (op_build (ps := [(6, .tmp 16)]) (x := (⟨0, 0, 0, 0, 0, [], [(⟨4, 0, zWide, zWide, [(⟨0, 8, 0, 0, 0, zOxm⟩ : Action)]⟩ : Inst)]⟩ : Flow)) rfl rfl rfl (by kernel_rfl) zr61 ⟨_, _, lFlow_6, _, by kernel_rfl, (vt rfl), rfl⟩) rfl <| Ac (op_buildSliceR (ps := [(0, .tmp 17)]) (l := [(⟨0, 0, 0, 0, 0, [], [(⟨4, 0, zWide, zWide, [(⟨0, 8, 0, 0, 0, zOxm⟩ : Action)]⟩ : Inst)]⟩ : Flow)]) rfl rfl sl22 zr61 rfl rfl ⟨_, _, Lens.idx 1 kFlow 0 (by decide), _, rfl, (vt rfl), rfl⟩ rfl) rfl <| FdA lSwitch_0 fl26_0 rfl <| Ac (op_index' rfl rfl ar23 (vt rfl) (vk rfl) rfl) rfl <| Sto ty22 2 rfl <| Nl <| AW.seq ?_
  obtain ⟨x2, hx2, h⟩ := bsome h
  refine Rg <| Ld ty26 2 rfl <| Ac (op_build (ps := []) (x := (⟨0, []⟩ : Env)) rfl rfl rfl (by kernel_rfl) zr39 rfl) rfl <| Ac (op_build (ps := []) (x := (Vector.replicate 24 zWide)) rfl rfl rfl (by kernel_rfl) zr44 rfl) rfl <| Cl [21, 22, 23] (c_sem_Out _ _ _ _ hx2) e29 rfl <| As rfl <| Nl <| AW.seq ?_
  obtain ⟨e3, he3, h⟩ := bsome h
  obtain ⟨e4, he4, h⟩ := bsome h
  obtain ⟨x5, hx5, h⟩ := bsome h
  obtain ⟨x6, hx6, h⟩ := bsome h
  refine Rg <| Md rfl <| Ac (op_len' rfl rfl sl46 (vt rfl)) rfl <| Ac (op_eql rfl rfl (vt rfl) (vk rfl)) rfl <| Md rfl <| Gd rfl (fun hq => op_move (A := rd (ksl kOut) x2) rfl rfl (vt rfl)) <| Gd rfl (fun hq => op_indexs' rfl rfl sl46 (vgt rfl hq) (vk rfl) (opt_t he3 hq)) <| Gd rfl (fun hq => op_fieldp lOut_0 rfl rfl fl71_0 (vgt rfl hq)) <| Gd rfl (fun hq => op_loadp rfl rfl ty3 (vgt rfl hq)) <| Gd rfl (fun hq => op_eql rfl rfl (vgt rfl hq) (vk rfl)) <| Ac (op_all rfl rfl (vt rfl) (vt rfl)) rfl <| Md rfl <| Gd rfl (fun hq => op_move (A := rd (ksl kOut) x2) rfl rfl (vt rfl)) <| Gd rfl (fun hq => op_indexs' rfl rfl sl46 (vgt rfl hq) (vk rfl) (opt_t he4 hq)) <| Gd rfl (fun hq => op_fieldp lOut_0 rfl rfl fl71_0 (vgt rfl hq)) <| Gd rfl (fun hq => op_loadp rfl rfl ty3 (vgt rfl hq)) <| Gd rfl (fun hq => op_eql rfl rfl (vgt rfl hq) (vk rfl)) <| Ac (op_all rfl rfl (vt rfl) (vt rfl)) rfl <| Md rfl <| Gd rfl (fun hq => op_load rfl rfl ty26 (vt rfl) (i := 2) rfl) <| Gd rfl (fun hq => op_build (ps := []) (x := (Vector.replicate 24 zWide)) rfl rfl rfl (by kernel_rfl) zr44 rfl) <| Gd rfl (fun hq => op_call (xs := [.tmp 43, .tmp 44]) (c_sem_Path _ _ _ (opt_t hx5 hq)) e32 rfl rfl ⟨vgt rfl hq, vgt rfl hq, trivial⟩) <| Gd rfl (fun hq => op_build (ps := [(0, .const (Value.int IntKind.i64 0))]) (x := (⟨0, 0⟩ : Place)) rfl rfl rfl (by kernel_rfl) zr51 ⟨_, _, lPlace_0, _, by kernel_rfl, (vk rfl), rfl⟩) <| Gd rfl (fun hq => op_build (ps := [(0, .const (Value.int IntKind.i64 2))]) (x := (⟨2, 0⟩ : Place)) rfl rfl rfl (by kernel_rfl) zr51 ⟨_, _, lPlace_0, _, by kernel_rfl, (vk rfl), rfl⟩) <| Gd rfl (fun hq => op_buildSliceR (ps := [(0, .tmp 46), (1, .tmp 47)]) (l := [(⟨0, 0⟩ : Place), (⟨2, 0⟩ : Place)]) rfl rfl sl49 zr51 rfl rfl ⟨_, _, Lens.idx 2 kPlace 0 (by decide), _, rfl, (vgt rfl hq), _, _, Lens.idx 2 kPlace 1 (by decide), _, rfl, (vgt rfl hq), rfl⟩ rfl) <| Gd rfl (fun hq => op_call (xs := [.tmp 45, .tmp 48]) (c_slices_Equal_Place _ _ _ (opt_t hx6 hq)) e31 rfl rfl ⟨vgt rfl hq, vgt rfl hq, trivial⟩) <| Ac (op_all rfl rfl (vt rfl) (vt rfl)) rfl <| As rfl <| Nl <| AW.ret ?_
  obtain rfl := si h
  exact ret1 Tryz.results27 rfl (out_tmp rfl)
def F_r27_Order_l3 (at11 : Int) (go1 : (List Int) → Int → Option (List Int)) (i8 : Int) : Nat → (List Int) → Int → Option (List Int)
  | 0, _, _ => none
  | m22 + 1, l20, j21 => (bif (decide (j21 > at11)) then (lget l20 (IntKind.i64.wrap (j21 - 1))).bind fun e23 => (lget l20 j21).bind fun e24 => (F_r27_Order_l3 at11 go1 i8 m22) (List.set l20 j21.toNat e23) (IntKind.i64.wrap (j21 - 1)) else (lget l20 at11).bind fun e25 => go1 (List.set l20 at11.toNat i8) (IntKind.i64.wrap (i8 + 1)))
def F_r27_Order_l2 (l6 : (List Int)) (t1 : (List Flow)) (i8 : Int) (go1 : (List Int) → Int → Option (List Int)) : Nat → Int → Option (List Int)
  | 0, _ => none
  | m12 + 1, at11 => (opt (decide (at11 > 0)) (lget l6 (IntKind.i64.wrap (at11 - 1)))).bind fun e13 => (opt (decide (at11 > 0)) (lget t1 e13)).bind fun e14 => (opt (decide (at11 > 0)) (lget t1 i8)).bind fun e15 => (bif ((decide (at11 > 0)) && (decide (e14.Priority < e15.Priority))) then (F_r27_Order_l2 l6 t1 i8 go1 m12) (IntKind.i64.wrap (at11 - 1)) else (appd l6 [0]).bind fun l16 => F_r27_Order_l3 at11 go1 i8 ((((IntKind.i64.wrap ((l16.length : Int) - 1)) : Int) - at11).toNat + 1) l16 (IntKind.i64.wrap ((l16.length : Int) - 1)))
def F_r27_Order_l1 (t1 : (List Flow)) : Nat → (List Int) → Int → Option (List Int)
  | 0, _, _ => none
  | m9 + 1, l6, i8 => (bif (decide (i8 < (t1.length : Int))) then F_r27_Order_l2 l6 t1 i8 (F_r27_Order_l1 t1 m9) fuel0 (l6.length : Int) else some l6)
def F_r27_Order (t1 : (List Flow)) : Option (List Int) :=
  F_r27_Order_l1 t1 ((((t1.length : Int) : Int) - 0).toNat + 1) [] 0
theorem c_r27_Order (t1 : (List Flow)) (r : (List Int)) (h : F_r27_Order t1 = some r) : PCon Tryz.prog 139 [rd (ksl kFlow) t1] (rd (ksl (kint .i64)) r) := by
  refine PCon.of (Con.intro0 Tryz.func139 rfl Tryz.ntmps139 rfl fun w H => ?_)
  unfold F_r27_Order at h
  refine SR <| Ac (op_assign (A := rd (ksl (kint .i64)) []) rfl rfl vnil) rfl <| Nl <| SR <| Ct rfl (op_buildSlice 1001 (ps := []) (l := []) rfl rfl sl37 zr3 rfl rfl rfl rfl) ?_
  rintro _ ⟨v2, rfl⟩
  refine Aw rfl <| Nl <| AW.seq <| SR <| Ak rfl <| Nl <| AW.block <| AW.loopG (d := []) (ν := Nat × (List Int) × Int × Value) (fun n => True ∧ F_r27_Order_l1 t1 n.1 n.2.1 n.2.2.1 = some r) (fun n => n.1) (fun n => [(0, rd (ksl kFlow) t1), (3, raw n.2.2.2), (4, rd (kint .i64) n.2.2.1)]) (fun n => [(1001, Row n.2.2.2 3 (kint .i64) n.2.1)]) (((((t1.length : Int) : Int) - 0).toNat + 1), [], 0, v2) ⟨trivial, h⟩ ⟨rfl, ⟨rfl, rfl, rfl, trivial⟩, ⟨rfl, trivial⟩⟩ ?_
  rintro ⟨m9, l6, i8, v7⟩ ⟨hsf1, h⟩
  change True at hsf1
  change F_r27_Order_l1 t1 m9 l6 i8 = some r at h
  change AW _ _ _ ⟨slots [(0, rd (ksl kFlow) t1), (3, raw v7), (4, rd (kint .i64) i8)], ress [(1001, Row v7 3 (kint .i64) l6)], _⟩
  cases m9 with
  | zero => cases h
  | succ m9 =>
    unfold F_r27_Order_l1 at h
    generalize hgo1 : F_r27_Order_l1 t1 m9 = go1 at h
    refine AW.seq <| SR <| Md rfl <| Md rfl <| Ac (op_len' rfl rfl sl22 (vt rfl)) rfl <| Ac (op_lss rfl rfl (vt rfl) (vt rfl)) rfl <| Nl <| Cn rfl (fun hc => ?_) (fun hc => ?_)
    · have h := cond_t hc h
      refine AW.skip <| AW.seq <| AW.block <| SR <| Mw rfl <| Ac (op_leno 1001 rfl rfl sl37 (vt rfl) rfl) rfl <| As rfl <| Nl <| AW.seq <| AW.block <| AW.loopG (d := []) (ν := Nat × Int) (fun n => True ∧ F_r27_Order_l2 l6 t1 i8 go1 n.1 n.2 = some r) (fun n => n.1) (fun n => [(0, rd (ksl kFlow) t1), (3, raw v7), (4, rd (kint .i64) i8), (5, rd (kint .i64) n.2)]) (fun n => [(1001, Row v7 3 (kint .i64) l6)]) (fuel0, (l6.length : Int)) ⟨trivial, h⟩ ⟨rfl, ⟨rfl, rfl, rfl, rfl, trivial⟩, ⟨rfl, trivial⟩⟩ ?_
      rintro ⟨m12, at11⟩ ⟨hsf2, h⟩
      change True at hsf2
      change F_r27_Order_l2 l6 t1 i8 go1 m12 at11 = some r at h
      change AW _ _ _ ⟨slots [(0, rd (ksl kFlow) t1), (3, raw v7), (4, rd (kint .i64) i8), (5, rd (kint .i64) at11)], ress [(1001, Row v7 3 (kint .i64) l6)], _⟩
      cases m12 with
      | zero => cases h
      | succ m12 =>
        unfold F_r27_Order_l2 at h
        generalize hgo2 : F_r27_Order_l2 l6 t1 i8 go1 m12 = go2 at h
        refine AW.seq <| AW.seq ?_
        obtain ⟨e13, he13, h⟩ := bsome h
        obtain ⟨e14, he14, h⟩ := bsome h
        obtain ⟨e15, he15, h⟩ := bsome h
        refine AW.regionAny [⟨[5], [16], [], []⟩, ⟨[16], [17], [], []⟩, ⟨[17], [18], [], []⟩, ⟨[0, 18], [19], [], []⟩, ⟨[3, 18], [20], [], []⟩, ⟨[5, 18], [21], [], []⟩, ⟨[21, 18], [22], [], []⟩, ⟨[20, 22, 18], [23], [1001], []⟩, ⟨[23, 18], [24], [1001], []⟩, ⟨[19, 24, 18], [25], [], []⟩, ⟨[25, 18], [26], [], []⟩, ⟨[26, 18], [27], [], []⟩, ⟨[0, 18], [28], [], []⟩, ⟨[4, 18], [29], [], []⟩, ⟨[28, 29, 18], [30], [], []⟩, ⟨[30, 18], [31], [], []⟩, ⟨[31, 18], [32], [], []⟩, ⟨[27, 32, 18], [33], [], []⟩, ⟨[33, 18], [34], [], []⟩] mixed (by kernel_rfl) <| SMd rfl <| Sc (lo [16] [] rfl fun S hs hr => op_gtr rfl rfl (vh hs 16 rfl rfl) (vk rfl)) rfl <| SMd rfl <| Sc (lg [0, 18] [] rfl fun hq S hs hr => op_move (A := rd (ksl kFlow) t1) rfl rfl (vh hs 0 rfl rfl)) rfl <| Sc (lg [3, 18] [] rfl fun hq S hs hr => op_move (A := raw v7) rfl rfl (vh hs 3 rfl rfl)) rfl <| Sc (lg [5, 18] [] rfl fun hq S hs hr => op_move (A := rd (kint .i64) at11) rfl rfl (vh hs 5 rfl rfl)) rfl <| Sc (lg [21, 18] [] rfl fun hq S hs hr => op_sub rfl rfl (vgt ((hs 21 rfl).trans rfl) hq) (vk rfl)) rfl <| Sc (lg [20, 22, 18] [1001] rfl fun hq S hs hr => op_indexo' 1001 rfl rfl sl37 (vgt ((hs 20 rfl).trans rfl) hq) ((hr 1001 rfl).trans rfl) (vgt ((hs 22 rfl).trans rfl) hq) (opt_t he13 hq)) rfl <| Sc (lg [23, 18] [1001] rfl fun hq S hs hr => op_loado' 1001 rfl rfl ty3 (vgt ((hs 23 rfl).trans rfl) hq) ((hr 1001 rfl).trans rfl) (lget_of (opt_t he13 hq)).2) rfl <| Sc (lg [19, 24, 18] [] rfl fun hq S hs hr => op_indexs' rfl rfl sl22 (vgt ((hs 19 rfl).trans rfl) hq) (vgt ((hs 24 rfl).trans rfl) hq) (opt_t he14 hq)) rfl <| Sc (lg [25, 18] [] rfl fun hq S hs hr => op_fieldp lFlow_1 rfl rfl fl61_1 (vgt ((hs 25 rfl).trans rfl) hq)) rfl <| Sc (lg [26, 18] [] rfl fun hq S hs hr => op_loadp rfl rfl ty3 (vgt ((hs 26 rfl).trans rfl) hq)) rfl <| Sc (lg [0, 18] [] rfl fun hq S hs hr => op_move (A := rd (ksl kFlow) t1) rfl rfl (vh hs 0 rfl rfl)) rfl <| Sc (lg [4, 18] [] rfl fun hq S hs hr => op_move (A := rd (kint .i64) i8) rfl rfl (vh hs 4 rfl rfl)) rfl <| Sc (lg [28, 29, 18] [] rfl fun hq S hs hr => op_indexs' rfl rfl sl22 (vgt ((hs 28 rfl).trans rfl) hq) (vgt ((hs 29 rfl).trans rfl) hq) (opt_t he15 hq)) rfl <| Sc (lg [30, 18] [] rfl fun hq S hs hr => op_fieldp lFlow_1 rfl rfl fl61_1 (vgt ((hs 30 rfl).trans rfl) hq)) rfl <| Sc (lg [31, 18] [] rfl fun hq S hs hr => op_loadp rfl rfl ty3 (vgt ((hs 31 rfl).trans rfl) hq)) rfl <| Sc (lg [27, 32, 18] [] rfl fun hq S hs hr => op_lss rfl rfl (vgt ((hs 27 rfl).trans rfl) hq) (vgt ((hs 32 rfl).trans rfl) hq)) rfl <| Sc (lo [33, 18] [] rfl fun S hs hr => op_all rfl rfl (vh hs 18 rfl rfl) (vh hs 33 rfl rfl)) rfl <| Cn rfl (fun hc => ?_) (fun hc => ?_)
        · have h := cond_t hc h
          refine AW.skip <| AW.block <| Rg <| Md rfl <| Ac (op_sub rfl rfl (vt rfl) (vk rfl)) rfl <| As rfl <| Nl ?_
          subst hgo2
          exact ⟨(m12, (IntKind.i64.wrap (at11 - 1))), Nat.lt_succ_self _, ⟨trivial, h⟩, ⟨rfl, ⟨rfl, rfl, rfl, rfl, trivial⟩, ⟨rfl, trivial⟩⟩⟩
        · have h := cond_f hc h
          refine AW.exit <| AW.seq ?_
          obtain ⟨l16, hl16, h⟩ := bsome h
          refine Rg <| Mw rfl <| Ac (op_buildSliceR (ps := [(0, .const (Value.int IntKind.i64 0))]) (l := [0]) rfl rfl sl37 zr3 rfl rfl ⟨_, _, Lens.idx 1 (kint .i64) 0 (by decide), _, rfl, (vk rfl), rfl⟩ rfl) rfl <| Ct rfl (op_append' 1001 hl16 rfl rfl el37 (vt rfl) rfl (vt rfl)) ?_
          rintro _ ⟨v17, rfl⟩
          refine Aw rfl <| Nl <| AW.seq <| SR <| Mw rfl <| Ac (op_leno 1001 rfl rfl sl37 (vt rfl) rfl) rfl <| Ac (op_sub rfl rfl (vt rfl) (vk rfl)) rfl <| As rfl <| Nl <| AW.block <| AW.loopG (d := []) (ν := Nat × (List Int) × Int) (fun n => True ∧ F_r27_Order_l3 at11 go1 i8 n.1 n.2.1 n.2.2 = some r) (fun n => n.1) (fun n => [(0, rd (ksl kFlow) t1), (3, raw v17), (4, rd (kint .i64) i8), (5, rd (kint .i64) at11), (6, rd (kint .i64) n.2.2)]) (fun n => [(1001, Row v17 3 (kint .i64) n.2.1)]) (((((IntKind.i64.wrap ((l16.length : Int) - 1)) : Int) - at11).toNat + 1), l16, (IntKind.i64.wrap ((l16.length : Int) - 1))) ⟨trivial, h⟩ ⟨rfl, ⟨rfl, rfl, rfl, rfl, rfl, trivial⟩, ⟨rfl, trivial⟩⟩ ?_
          rintro ⟨m22, l20, j21⟩ ⟨hsf3, h⟩
          change True at hsf3
          change F_r27_Order_l3 at11 go1 i8 m22 l20 j21 = some r at h
          change AW _ _ _ ⟨slots [(0, rd (ksl kFlow) t1), (3, raw v17), (4, rd (kint .i64) i8), (5, rd (kint .i64) at11), (6, rd (kint .i64) j21)], ress [(1001, Row v17 3 (kint .i64) l20)], _⟩
          cases m22 with
          | zero => cases h
          | succ m22 =>
            unfold F_r27_Order_l3 at h
            generalize hgo3 : F_r27_Order_l3 at11 go1 i8 m22 = go3 at h
            refine AW.seq <| SR <| Md rfl <| Md rfl <| Ac (op_gtr rfl rfl (vt rfl) (vt rfl)) rfl <| Nl <| Cn rfl (fun hc => ?_) (fun hc => ?_)
            · have h := cond_t hc h
              refine AW.skip <| AW.seq <| AW.block ?_
              obtain ⟨e23, he23, h⟩ := bsome h
              obtain ⟨e24, he24, h⟩ := bsome h
              refine Rg <| Mw rfl <| Md rfl <| Mw rfl <| Md rfl <| Ac (op_sub rfl rfl (vt rfl) (vk rfl)) rfl <| Ac (op_indexo' 1001 rfl rfl sl37 (vt rfl) rfl (vt rfl) he23) rfl <| Ac (op_loado' 1001 rfl rfl ty3 (vt rfl) rfl (lget_of he23).2) rfl <| Ac (op_indexo' 1001 rfl rfl sl37 (vt rfl) rfl (vt rfl) he24) rfl <| Ac (op_storeo' 1001 rfl rfl ty3 (vt rfl) rfl (lget_of he24).2 (vt rfl)) rfl <| Nl <| Rg <| Md rfl <| Ac (op_sub rfl rfl (vt rfl) (vk rfl)) rfl <| As rfl <| Nl ?_
              subst hgo3
              exact ⟨(m22, (List.set l20 j21.toNat e23), (IntKind.i64.wrap (j21 - 1))), Nat.lt_succ_self _, ⟨trivial, h⟩, ⟨rfl, ⟨rfl, rfl, rfl, rfl, rfl, trivial⟩, ⟨rfl, trivial⟩⟩⟩
            · have h := cond_f hc h
              refine AW.exit ?_
              obtain ⟨e25, he25, h⟩ := bsome h
              refine Rg <| Mw rfl <| Md rfl <| Md rfl <| Ac (op_indexo' 1001 rfl rfl sl37 (vt rfl) rfl (vt rfl) he25) rfl <| Ac (op_storeo' 1001 rfl rfl ty3 (vt rfl) rfl (lget_of he25).2 (vt rfl)) rfl <| Nl <| Rg <| Md rfl <| Ac (op_add rfl rfl (vt rfl) (vk rfl)) rfl <| As rfl <| Nl ?_
              subst hgo1
              exact ⟨(m9, (List.set l20 at11.toNat i8), (IntKind.i64.wrap (i8 + 1)), v17), Nat.lt_succ_self _, ⟨trivial, h⟩, ⟨rfl, ⟨rfl, rfl, rfl, trivial⟩, ⟨rfl, trivial⟩⟩⟩
    · have h := cond_f hc h
      refine AW.exit <| SR <| Mw rfl <| Aw rfl <| Nl <| AW.freezes [2, 3, 60] 1001 rfl ⟨rfl, rfl, rfl, trivial⟩ rfl <| AW.ret ?_
      obtain rfl := si h
      exact ret1 Tryz.results139 rfl (out_tmp rfl)
def F_r03_Right (f1 : Int) : Option Bool :=
  some ((decide (f1 ≥ 0)) && (decide (f1 < 24)))
theorem c_r03_Right (f1 : Int) (r : Bool) (h : F_r03_Right f1 = some r) : PCon Tryz.prog 225 [rd (kint .i64) f1] (rd kbool r) := by
  refine PCon.of (Con.intro0 Tryz.func225 rfl Tryz.ntmps225 rfl fun w H => ?_)
  unfold F_r03_Right at h
  refine SR <| Ab rfl <| Nl <| SR <| Md rfl <| Ac (op_geq rfl rfl (vt rfl) (vk rfl)) rfl <| Md rfl <| Gd rfl (fun hq => op_move (A := rd (kint .i64) f1) rfl rfl (vt rfl)) <| Gd rfl (fun hq => op_lss rfl rfl (vgt rfl hq) (vk rfl)) <| Ac (op_all rfl rfl (vt rfl) (vt rfl)) rfl <| As rfl <| Nl <| AW.ret ?_
  obtain rfl := si h
  exact ret1 Tryz.results225 rfl (out_tmp rfl)
end Go.Proofs.YtknpgojdkobgjaaGreat.W
set_option linter.unusedVariables false
set_option maxRecDepth 4000
set_option linter.unusedSimpArgs false
namespace Go.Proofs.YtknpgojdkobgjaaGreat.W
open Go Go.Wb
theorem e342 : Ent Tryz.prog 342 := Ent.mk Tryz.func342 rfl rfl
theorem e334 : Ent Tryz.prog 334 := Ent.mk Tryz.func334 rfl rfl
theorem e309 : Ent Tryz.prog 309 := Ent.mk Tryz.func309 rfl rfl
theorem e187 : Ent Tryz.prog 187 := Ent.mk Tryz.func187 rfl rfl
theorem e225 : Ent Tryz.prog 225 := Ent.mk Tryz.func225 rfl rfl
theorem e308 : Ent Tryz.prog 308 := Ent.mk Tryz.func308 rfl rfl
theorem e307 : Ent Tryz.prog 307 := Ent.mk Tryz.func307 rfl rfl
theorem e271 : Ent Tryz.prog 271 := Ent.mk Tryz.func271 rfl rfl
def F_r03_upper (f1 : Int) : Option (ByteArray × Int × Int × Bool) :=
  (bif (decide (f1 = 12)) then some ({ data := #[116, 99, 112, 95, 115, 114, 99] }, 13, 16, false) else (bif (decide (f1 = 13)) then some ({ data := #[116, 99, 112, 95, 100, 115, 116] }, 14, 16, false) else (bif (decide (f1 = 14)) then some ({ data := #[117, 100, 112, 95, 115, 114, 99] }, 15, 16, false) else (bif (decide (f1 = 15)) then some ({ data := #[117, 100, 112, 95, 100, 115, 116] }, 16, 16, false) else (bif (decide (f1 = 16)) then some ({ data := #[105, 99, 109, 112, 118, 52, 95, 116, 121, 112, 101] }, 19, 8, false) else (bif (decide (f1 = 17)) then some ({ data := #[105, 99, 109, 112, 118, 52, 95, 99, 111, 100, 101] }, 20, 8, false) else (bif (decide (f1 = 18)) then some ({ data := #[97, 114, 112, 95, 111, 112] }, 21, 16, false) else (bif (decide (f1 = 19)) then some ({ data := #[97, 114, 112, 95, 115, 112, 97] }, 22, 32, true) else (bif (decide (f1 = 20)) then some ({ data := #[97, 114, 112, 95, 116, 112, 97] }, 23, 32, true) else (bif (decide (f1 = 21)) then some ({ data := #[105, 112, 118, 54, 95, 115, 114, 99] }, 26, 128, true) else (bif (decide (f1 = 22)) then some ({ data := #[105, 112, 118, 54, 95, 100, 115, 116] }, 27, 128, true) else (bif (decide (f1 = 23)) then some ({ data := #[109, 112, 108, 115, 95, 108, 97, 98, 101, 108] }, 34, 20, false) else some ({ data := #[] }, (-1), 0, false)))))))))))))
theorem c_r03_upper (f1 : Int) (r : (ByteArray × Int × Int × Bool)) (h : F_r03_upper f1 = some r) : PCon Tryz.prog 342 [rd (kint .i64) f1] (tup4 (rd kstr r.1) (rd (kint .i64) r.2.1) (rd (kint .i64) r.2.2.1) (rd kbool r.2.2.2)) := by
  refine PCon.of (Con.intro0 Tryz.func342 rfl Tryz.ntmps342 rfl fun w H => ?_)
  unfold F_r03_upper at h
  refine SR <| Ac (op_assign (A := rd kstr { data := #[] }) rfl rfl (vs (by decide))) rfl <| Ak rfl <| Ak rfl <| Ab rfl <| Nl <| AW.seq <| SR <| Md rfl <| Nl <| AW.block <| SR <| Ac (op_eql rfl rfl (vt rfl) (vk rfl)) rfl <| As rfl <| Nl <| Cn rfl (fun hc => ?_) (fun hc => ?_)
  · have h := cond_t hc h
    refine SR <| Ac (op_assign (A := rd kstr { data := #[116, 99, 112, 95, 115, 114, 99] }) rfl rfl (vs (by decide))) rfl <| Ak rfl <| Ak rfl <| Ab rfl <| Nl <| AW.ret ?_
    obtain rfl := si h
    exact ret4 Tryz.results342 rfl (out_tmp rfl) (out_tmp rfl) (out_tmp rfl) (out_tmp rfl)
  · have h := cond_f hc h
    refine SR <| Ac (op_eql rfl rfl (vt rfl) (vk rfl)) rfl <| As rfl <| Nl <| Cn rfl (fun hc => ?_) (fun hc => ?_)
    · have h := cond_t hc h
      refine SR <| Ac (op_assign (A := rd kstr { data := #[116, 99, 112, 95, 100, 115, 116] }) rfl rfl (vs (by decide))) rfl <| Ak rfl <| Ak rfl <| Ab rfl <| Nl <| AW.ret ?_
      obtain rfl := si h
      exact ret4 Tryz.results342 rfl (out_tmp rfl) (out_tmp rfl) (out_tmp rfl) (out_tmp rfl)
    · have h := cond_f hc h
      refine SR <| Ac (op_eql rfl rfl (vt rfl) (vk rfl)) rfl <| As rfl <| Nl <| Cn rfl (fun hc => ?_) (fun hc => ?_)
      · have h := cond_t hc h
        refine SR <| Ac (op_assign (A := rd kstr { data := #[117, 100, 112, 95, 115, 114, 99] }) rfl rfl (vs (by decide))) rfl <| Ak rfl <| Ak rfl <| Ab rfl <| Nl <| AW.ret ?_
        obtain rfl := si h
        exact ret4 Tryz.results342 rfl (out_tmp rfl) (out_tmp rfl) (out_tmp rfl) (out_tmp rfl)
      · have h := cond_f hc h
        refine SR <| Ac (op_eql rfl rfl (vt rfl) (vk rfl)) rfl <| As rfl <| Nl <| Cn rfl (fun hc => ?_) (fun hc => ?_)
        · have h := cond_t hc h
          refine SR <| Ac (op_assign (A := rd kstr { data := #[117, 100, 112, 95, 100, 115, 116] }) rfl rfl (vs (by decide))) rfl <| Ak rfl <| Ak rfl <| Ab rfl <| Nl <| AW.ret ?_
          obtain rfl := si h
          exact ret4 Tryz.results342 rfl (out_tmp rfl) (out_tmp rfl) (out_tmp rfl) (out_tmp rfl)
        · have h := cond_f hc h
          refine SR <| Ac (op_eql rfl rfl (vt rfl) (vk rfl)) rfl <| As rfl <| Nl <| Cn rfl (fun hc => ?_) (fun hc => ?_)
          · have h := cond_t hc h
            refine SR <| Ac (op_assign (A := rd kstr { data := #[105, 99, 109, 112, 118, 52, 95, 116, 121, 112, 101] }) rfl rfl (vs (by decide))) rfl <| Ak rfl <| Ak rfl <| Ab rfl <| Nl <| AW.ret ?_
            obtain rfl := si h
            exact ret4 Tryz.results342 rfl (out_tmp rfl) (out_tmp rfl) (out_tmp rfl) (out_tmp rfl)
          · have h := cond_f hc h
            refine SR <| Ac (op_eql rfl rfl (vt rfl) (vk rfl)) rfl <| As rfl <| Nl <| Cn rfl (fun hc => ?_) (fun hc => ?_)
            · have h := cond_t hc h
              refine SR <| Ac (op_assign (A := rd kstr { data := #[105, 99, 109, 112, 118, 52, 95, 99, 111, 100, 101] }) rfl rfl (vs (by decide))) rfl <| Ak rfl <| Ak rfl <| Ab rfl <| Nl <| AW.ret ?_
              obtain rfl := si h
              exact ret4 Tryz.results342 rfl (out_tmp rfl) (out_tmp rfl) (out_tmp rfl) (out_tmp rfl)
            · have h := cond_f hc h
              refine SR <| Ac (op_eql rfl rfl (vt rfl) (vk rfl)) rfl <| As rfl <| Nl <| Cn rfl (fun hc => ?_) (fun hc => ?_)
              · have h := cond_t hc h
                refine SR <| Ac (op_assign (A := rd kstr { data := #[97, 114, 112, 95, 111, 112] }) rfl rfl (vs (by decide))) rfl <| Ak rfl <| Ak rfl <| Ab rfl <| Nl <| AW.ret ?_
                obtain rfl := si h
                exact ret4 Tryz.results342 rfl (out_tmp rfl) (out_tmp rfl) (out_tmp rfl) (out_tmp rfl)
              · have h := cond_f hc h
                refine SR <| Ac (op_eql rfl rfl (vt rfl) (vk rfl)) rfl <| As rfl <| Nl <| Cn rfl (fun hc => ?_) (fun hc => ?_)
                · have h := cond_t hc h
                  refine SR <| Ac (op_assign (A := rd kstr { data := #[97, 114, 112, 95, 115, 112, 97] }) rfl rfl (vs (by decide))) rfl <| Ak rfl <| Ak rfl <| Ab rfl <| Nl <| AW.ret ?_
                  obtain rfl := si h
                  exact ret4 Tryz.results342 rfl (out_tmp rfl) (out_tmp rfl) (out_tmp rfl) (out_tmp rfl)
                · have h := cond_f hc h
                  refine SR <| Ac (op_eql rfl rfl (vt rfl) (vk rfl)) rfl <| As rfl <| Nl <| Cn rfl (fun hc => ?_) (fun hc => ?_)
                  · have h := cond_t hc h
                    refine SR <| Ac (op_assign (A := rd kstr { data := #[97, 114, 112, 95, 116, 112, 97] }) rfl rfl (vs (by decide))) rfl <| Ak rfl <| Ak rfl <| Ab rfl <| Nl <| AW.ret ?_
                    obtain rfl := si h
                    exact ret4 Tryz.results342 rfl (out_tmp rfl) (out_tmp rfl) (out_tmp rfl) (out_tmp rfl)
                  · have h := cond_f hc h
                    refine SR <| Ac (op_eql rfl rfl (vt rfl) (vk rfl)) rfl <| As rfl <| Nl <| Cn rfl (fun hc => ?_) (fun hc => ?_)
                    · have h := cond_t hc h
                      refine SR <| Ac (op_assign (A := rd kstr { data := #[105, 112, 118, 54, 95, 115, 114, 99] }) rfl rfl (vs (by decide))) rfl <| Ak rfl <| Ak rfl <| Ab rfl <| Nl <| AW.ret ?_
                      obtain rfl := si h
                      exact ret4 Tryz.results342 rfl (out_tmp rfl) (out_tmp rfl) (out_tmp rfl) (out_tmp rfl)
                    · have h := cond_f hc h
                      refine SR <| Ac (op_eql rfl rfl (vt rfl) (vk rfl)) rfl <| As rfl <| Nl <| Cn rfl (fun hc => ?_) (fun hc => ?_)
                      · have h := cond_t hc h
                        refine SR <| Ac (op_assign (A := rd kstr { data := #[105, 112, 118, 54, 95, 100, 115, 116] }) rfl rfl (vs (by decide))) rfl <| Ak rfl <| Ak rfl <| Ab rfl <| Nl <| AW.ret ?_
                        obtain rfl := si h
                        exact ret4 Tryz.results342 rfl (out_tmp rfl) (out_tmp rfl) (out_tmp rfl) (out_tmp rfl)
                      · have h := cond_f hc h
                        refine SR <| Ac (op_eql rfl rfl (vt rfl) (vk rfl)) rfl <| As rfl <| Nl <| Cn rfl (fun hc => ?_) (fun hc => ?_)
                        · have h := cond_t hc h
                          refine SR <| Ac (op_assign (A := rd kstr { data := #[109, 112, 108, 115, 95, 108, 97, 98, 101, 108] }) rfl rfl (vs (by decide))) rfl <| Ak rfl <| Ak rfl <| Ab rfl <| Nl <| AW.ret ?_
                          obtain rfl := si h
                          exact ret4 Tryz.results342 rfl (out_tmp rfl) (out_tmp rfl) (out_tmp rfl) (out_tmp rfl)
                        · have h := cond_f hc h
                          refine AW.skip <| SR <| Ac (op_assign (A := rd kstr { data := #[] }) rfl rfl (vs (by decide))) rfl <| Ak rfl <| Ak rfl <| Ab rfl <| Nl <| AW.ret ?_
                          obtain rfl := si h
                          exact ret4 Tryz.results342 rfl (out_tmp rfl) (out_tmp rfl) (out_tmp rfl) (out_tmp rfl)
def F_r03_row (f1 : Int) : Option (ByteArray × Int × Int × Bool) :=
  (bif (decide (f1 = 0)) then some ({ data := #[105, 110, 95, 112, 111, 114, 116] }, 0, 32, false) else (bif (decide (f1 = 1)) then some ({ data := #[109, 101, 116, 97, 100, 97, 116, 97] }, 2, 64, true) else (bif (decide (f1 = 2)) then some ({ data := #[101, 116, 104, 95, 100, 115, 116] }, 3, 48, true) else (bif (decide (f1 = 3)) then some ({ data := #[101, 116, 104, 95, 115, 114, 99] }, 4, 48, true) else (bif (decide (f1 = 4)) then some ({ data := #[101, 116, 104, 95, 116, 121, 112, 101] }, 5, 16, false) else (bif (decide (f1 = 5)) then some ({ data := #[118, 108, 97, 110, 95, 118, 105, 100] }, 6, 13, true) else (bif (decide (f1 = 6)) then some ({ data := #[118, 108, 97, 110, 95, 112, 99, 112] }, 7, 3, false) else (bif (decide (f1 = 7)) then some ({ data := #[105, 112, 95, 100, 115, 99, 112] }, 8, 6, false) else (bif (decide (f1 = 8)) then some ({ data := #[105, 112, 95, 101, 99, 110] }, 9, 2, false) else (bif (decide (f1 = 9)) then some ({ data := #[105, 112, 95, 112, 114, 111, 116, 111] }, 10, 8, false) else (bif (decide (f1 = 10)) then some ({ data := #[105, 112, 118, 52, 95, 115, 114, 99] }, 11, 32, true) else (bif (decide (f1 = 11)) then some ({ data := #[105, 112, 118, 52, 95, 100, 115, 116] }, 12, 32, true) else (F_r03_upper f1).bind fun x2 => some (x2.1, x2.2.1, x2.2.2.1, x2.2.2.2)))))))))))))
theorem c_r03_row (f1 : Int) (r : (ByteArray × Int × Int × Bool)) (h : F_r03_row f1 = some r) : PCon Tryz.prog 334 [rd (kint .i64) f1] (tup4 (rd kstr r.1) (rd (kint .i64) r.2.1) (rd (kint .i64) r.2.2.1) (rd kbool r.2.2.2)) := by
  refine PCon.of (Con.intro0 Tryz.func334 rfl Tryz.ntmps334 rfl fun w H => ?_)
  unfold F_r03_row at h
  refine SR <| Ac (op_assign (A := rd kstr { data := #[] }) rfl rfl (vs (by decide))) rfl <| Ak rfl <| Ak rfl <| Ab rfl <| Nl <| AW.seq <| SR <| Md rfl <| Nl <| AW.block <| SR <| Ac (op_eql rfl rfl (vt rfl) (vk rfl)) rfl <| As rfl <| Nl <| Cn rfl (fun hc => ?_) (fun hc => ?_)
  · have h := cond_t hc h
    refine SR <| Ac (op_assign (A := rd kstr { data := #[105, 110, 95, 112, 111, 114, 116] }) rfl rfl (vs (by decide))) rfl <| Ak rfl <| Ak rfl <| Ab rfl <| Nl <| AW.ret ?_
    obtain rfl := si h
    exact ret4 Tryz.results334 rfl (out_tmp rfl) (out_tmp rfl) (out_tmp rfl) (out_tmp rfl)
  · have h := cond_f hc h
    refine SR <| Ac (op_eql rfl rfl (vt rfl) (vk rfl)) rfl <| As rfl <| Nl <| Cn rfl (fun hc => ?_) (fun hc => ?_)
    · have h := cond_t hc h
      refine SR <| Ac (op_assign (A := rd kstr { data := #[109, 101, 116, 97, 100, 97, 116, 97] }) rfl rfl (vs (by decide))) rfl <| Ak rfl <| Ak rfl <| Ab rfl <| Nl <| AW.ret ?_
      obtain rfl := si h
      exact ret4 Tryz.results334 rfl (out_tmp rfl) (out_tmp rfl) (out_tmp rfl) (out_tmp rfl)
    · have h := cond_f hc h
      refine SR <| Ac (op_eql rfl rfl (vt rfl) (vk rfl)) rfl <| As rfl <| Nl <| Cn rfl (fun hc => ?_) (fun hc => ?_)
      · have h := cond_t hc h
        refine SR <| Ac (op_assign (A := rd kstr { data := #[101, 116, 104, 95, 100, 115, 116] }) rfl rfl (vs (by decide))) rfl <| Ak rfl <| Ak rfl <| Ab rfl <| Nl <| AW.ret ?_
        obtain rfl := si h
        exact ret4 Tryz.results334 rfl (out_tmp rfl) (out_tmp rfl) (out_tmp rfl) (out_tmp rfl)
      · have h := cond_f hc h
        refine SR <| Ac (op_eql rfl rfl (vt rfl) (vk rfl)) rfl <| As rfl <| Nl <| Cn rfl (fun hc => ?_) (fun hc => ?_)
        · have h := cond_t hc h
          refine SR <| Ac (op_assign (A := rd kstr { data := #[101, 116, 104, 95, 115, 114, 99] }) rfl rfl (vs (by decide))) rfl <| Ak rfl <| Ak rfl <| Ab rfl <| Nl <| AW.ret ?_
          obtain rfl := si h
          exact ret4 Tryz.results334 rfl (out_tmp rfl) (out_tmp rfl) (out_tmp rfl) (out_tmp rfl)
        · have h := cond_f hc h
          refine SR <| Ac (op_eql rfl rfl (vt rfl) (vk rfl)) rfl <| As rfl <| Nl <| Cn rfl (fun hc => ?_) (fun hc => ?_)
          · have h := cond_t hc h
            refine SR <| Ac (op_assign (A := rd kstr { data := #[101, 116, 104, 95, 116, 121, 112, 101] }) rfl rfl (vs (by decide))) rfl <| Ak rfl <| Ak rfl <| Ab rfl <| Nl <| AW.ret ?_
            obtain rfl := si h
            exact ret4 Tryz.results334 rfl (out_tmp rfl) (out_tmp rfl) (out_tmp rfl) (out_tmp rfl)
          · have h := cond_f hc h
            refine SR <| Ac (op_eql rfl rfl (vt rfl) (vk rfl)) rfl <| As rfl <| Nl <| Cn rfl (fun hc => ?_) (fun hc => ?_)
            · have h := cond_t hc h
              refine SR <| Ac (op_assign (A := rd kstr { data := #[118, 108, 97, 110, 95, 118, 105, 100] }) rfl rfl (vs (by decide))) rfl <| Ak rfl <| Ak rfl <| Ab rfl <| Nl <| AW.ret ?_
              obtain rfl := si h
              exact ret4 Tryz.results334 rfl (out_tmp rfl) (out_tmp rfl) (out_tmp rfl) (out_tmp rfl)
            · have h := cond_f hc h
              refine SR <| Ac (op_eql rfl rfl (vt rfl) (vk rfl)) rfl <| As rfl <| Nl <| Cn rfl (fun hc => ?_) (fun hc => ?_)
              · have h := cond_t hc h
                refine SR <| Ac (op_assign (A := rd kstr { data := #[118, 108, 97, 110, 95, 112, 99, 112] }) rfl rfl (vs (by decide))) rfl <| Ak rfl <| Ak rfl <| Ab rfl <| Nl <| AW.ret ?_
                obtain rfl := si h
                exact ret4 Tryz.results334 rfl (out_tmp rfl) (out_tmp rfl) (out_tmp rfl) (out_tmp rfl)
              · have h := cond_f hc h
                refine SR <| Ac (op_eql rfl rfl (vt rfl) (vk rfl)) rfl <| As rfl <| Nl <| Cn rfl (fun hc => ?_) (fun hc => ?_)
                · have h := cond_t hc h
                  refine SR <| Ac (op_assign (A := rd kstr { data := #[105, 112, 95, 100, 115, 99, 112] }) rfl rfl (vs (by decide))) rfl <| Ak rfl <| Ak rfl <| Ab rfl <| Nl <| AW.ret ?_
                  obtain rfl := si h
                  exact ret4 Tryz.results334 rfl (out_tmp rfl) (out_tmp rfl) (out_tmp rfl) (out_tmp rfl)
                · have h := cond_f hc h
                  refine SR <| Ac (op_eql rfl rfl (vt rfl) (vk rfl)) rfl <| As rfl <| Nl <| Cn rfl (fun hc => ?_) (fun hc => ?_)
                  · have h := cond_t hc h
                    refine SR <| Ac (op_assign (A := rd kstr { data := #[105, 112, 95, 101, 99, 110] }) rfl rfl (vs (by decide))) rfl <| Ak rfl <| Ak rfl <| Ab rfl <| Nl <| AW.ret ?_
                    obtain rfl := si h
                    exact ret4 Tryz.results334 rfl (out_tmp rfl) (out_tmp rfl) (out_tmp rfl) (out_tmp rfl)
                  · have h := cond_f hc h
                    refine SR <| Ac (op_eql rfl rfl (vt rfl) (vk rfl)) rfl <| As rfl <| Nl <| Cn rfl (fun hc => ?_) (fun hc => ?_)
                    · have h := cond_t hc h
                      refine SR <| Ac (op_assign (A := rd kstr { data := #[105, 112, 95, 112, 114, 111, 116, 111] }) rfl rfl (vs (by decide))) rfl <| Ak rfl <| Ak rfl <| Ab rfl <| Nl <| AW.ret ?_
                      obtain rfl := si h
                      exact ret4 Tryz.results334 rfl (out_tmp rfl) (out_tmp rfl) (out_tmp rfl) (out_tmp rfl)
                    · have h := cond_f hc h
                      refine SR <| Ac (op_eql rfl rfl (vt rfl) (vk rfl)) rfl <| As rfl <| Nl <| Cn rfl (fun hc => ?_) (fun hc => ?_)
                      · have h := cond_t hc h
                        refine SR <| Ac (op_assign (A := rd kstr { data := #[105, 112, 118, 52, 95, 115, 114, 99] }) rfl rfl (vs (by decide))) rfl <| Ak rfl <| Ak rfl <| Ab rfl <| Nl <| AW.ret ?_
                        obtain rfl := si h
                        exact ret4 Tryz.results334 rfl (out_tmp rfl) (out_tmp rfl) (out_tmp rfl) (out_tmp rfl)
                      · have h := cond_f hc h
                        refine SR <| Ac (op_eql rfl rfl (vt rfl) (vk rfl)) rfl <| As rfl <| Nl <| Cn rfl (fun hc => ?_) (fun hc => ?_)
                        · have h := cond_t hc h
                          refine SR <| Ac (op_assign (A := rd kstr { data := #[105, 112, 118, 52, 95, 100, 115, 116] }) rfl rfl (vs (by decide))) rfl <| Ak rfl <| Ak rfl <| Ab rfl <| Nl <| AW.ret ?_
                          obtain rfl := si h
                          exact ret4 Tryz.results334 rfl (out_tmp rfl) (out_tmp rfl) (out_tmp rfl) (out_tmp rfl)
                        · have h := cond_f hc h
                          refine AW.skip <| AW.seq ?_
                          obtain ⟨x2, hx2, h⟩ := bsome h
                          refine Rg <| Md rfl <| Cl [31] (c_r03_upper _ _ hx2) e342 rfl <| Ac (op_ext4_0 rfl rfl (vt rfl)) rfl <| Ac (op_ext4_1 rfl rfl (vt rfl)) rfl <| Ac (op_ext4_2 rfl rfl (vt rfl)) rfl <| Ac (op_ext4_3 rfl rfl (vt rfl)) rfl <| As rfl <| As rfl <| As rfl <| As rfl <| Nl <| AW.ret ?_
                          obtain rfl := si h
                          exact ret4 Tryz.results334 rfl (out_tmp rfl) (out_tmp rfl) (out_tmp rfl) (out_tmp rfl)
def F_r03_Bits (f1 : Int) : Option Int :=
  (F_r03_row f1).bind fun x2 => some x2.2.2.1
theorem c_r03_Bits (f1 : Int) (r : Int) (h : F_r03_Bits f1 = some r) : PCon Tryz.prog 308 [rd (kint .i64) f1] (rd (kint .i64) r) := by
  refine PCon.of (Con.intro0 Tryz.func308 rfl Tryz.ntmps308 rfl fun w H => ?_)
  unfold F_r03_Bits at h
  refine SR <| Ak rfl <| Nl <| AW.seq ?_
  obtain ⟨x2, hx2, h⟩ := bsome h
  refine Rg <| Md rfl <| Cl [8] (c_r03_row _ _ hx2) e334 rfl <| Ac (op_move (A := tup4 (rd kstr x2.1) (rd (kint .i64) x2.2.1) (rd (kint .i64) x2.2.2.1) (rd kbool x2.2.2.2)) rfl rfl (vt rfl)) rfl <| Ac (op_ext4_0 rfl rfl (vt rfl)) rfl <| Ac (op_ext4_1 rfl rfl (vt rfl)) rfl <| Ac (op_ext4_2 rfl rfl (vt rfl)) rfl <| Ac (op_ext4_3 rfl rfl (vt rfl)) rfl <| As rfl <| As rfl <| As rfl <| As rfl <| Nl <| SR <| Md rfl <| As rfl <| Nl <| AW.ret ?_
  obtain rfl := si h
  exact ret1 Tryz.results308 rfl (out_tmp rfl)
def F_r02_Bit (i1 : Int) : Option Wide :=
  (bif ((decide (i1 < 0)) || (decide (i1 > 127))) then some (⟨0, 0⟩ : Wide) else (bif (decide (i1 < 64)) then (oushl (1 : BitVec 64) ((BitVec.ofInt 64 i1).toNat : Int)).bind fun q3 => some (⟨0, q3⟩ : Wide) else (oushl (1 : BitVec 64) ((BitVec.ofInt 64 (IntKind.i64.wrap (i1 - 64))).toNat : Int)).bind fun q4 => some (⟨q4, 0⟩ : Wide)))
theorem c_r02_Bit (i1 : Int) (r : Wide) (h : F_r02_Bit i1 = some r) : PCon Tryz.prog 309 [rd (kint .i64) i1] (rd kWide r) := by
  refine PCon.of (Con.intro0 Tryz.func309 rfl Tryz.ntmps309 rfl fun w H => ?_)
  unfold F_r02_Bit at h
  refine SR <| Ct rfl (op_alloc 3 rfl rfl zr42) ?_
  rintro _ ⟨g2, rfl⟩
  refine Nl <| AW.seq <| AW.block <| SR <| Md rfl <| Ac (op_lss rfl rfl (vt rfl) (vk rfl)) rfl <| Md rfl <| Gd rfl (fun hq => op_move (A := rd (kint .i64) i1) rfl rfl (vt rfl)) <| Gd rfl (fun hq => op_gtr rfl rfl (vgt rfl hq) (vk rfl)) <| Ac (op_any rfl rfl (vt rfl) (vt rfl)) rfl <| As rfl <| Nl <| Cn rfl (fun hc => ?_) (fun hc => ?_)
  · have h := cond_t hc h
    refine SR <| Ac (op_build (ps := []) (x := (⟨0, 0⟩ : Wide)) rfl rfl rfl (by kernel_rfl) zr42 rfl) rfl <| Sto ty42 3 rfl <| Nl <| AW.ret ?_
    obtain rfl := si h
    exact ret1 Tryz.results309 rfl (out_cell rfl (i := 3) rfl ty42)
  · have h := cond_f hc h
    refine SR <| Md rfl <| Ac (op_lss rfl rfl (vt rfl) (vk rfl)) rfl <| As rfl <| Nl <| Cn rfl (fun hc => ?_) (fun hc => ?_)
    · have h := cond_t hc h
      refine AW.seq ?_
      obtain ⟨q3, hq3, h⟩ := bsome h
      refine Rg <| Md rfl <| Ac (op_convu rfl rfl us3 un360 (vt rfl)) rfl <| Ac (op_ushl rfl rfl (vku (1 : BitVec 64) rfl) (vu64 (vt rfl)) hq3) rfl <| Ac (op_build (ps := [(1, .tmp 16)]) (x := (⟨0, q3⟩ : Wide)) rfl rfl rfl (by kernel_rfl) zr42 ⟨_, _, lWide_1, _, by kernel_rfl, (vt rfl), rfl⟩) rfl <| Sto ty42 3 rfl <| Nl <| AW.ret ?_
      obtain rfl := si h
      exact ret1 Tryz.results309 rfl (out_cell rfl (i := 3) rfl ty42)
    · have h := cond_f hc h
      refine AW.skip <| AW.seq ?_
      obtain ⟨q4, hq4, h⟩ := bsome h
      refine Rg <| Md rfl <| Ac (op_sub rfl rfl (vt rfl) (vk rfl)) rfl <| Ac (op_convu rfl rfl us3 un360 (vt rfl)) rfl <| Ac (op_ushl rfl rfl (vku (1 : BitVec 64) rfl) (vu64 (vt rfl)) hq4) rfl <| Ac (op_build (ps := [(0, .tmp 21)]) (x := (⟨q4, 0⟩ : Wide)) rfl rfl rfl (by kernel_rfl) zr42 ⟨_, _, lWide_0, _, by kernel_rfl, (vt rfl), rfl⟩) rfl <| Sto ty42 3 rfl <| Nl <| AW.ret ?_
      obtain rfl := si h
      exact ret1 Tryz.results309 rfl (out_cell rfl (i := 3) rfl ty42)
def F_r02_Or (a1 : Wide) (b2 : Wide) : Option Wide :=
  some (⟨(a1.Hi ||| b2.Hi), (a1.Lo ||| b2.Lo)⟩ : Wide)
theorem c_r02_Or (a1 : Wide) (b2 : Wide) (r : Wide) (h : F_r02_Or a1 b2 = some r) : PCon Tryz.prog 187 [rd kWide a1, rd kWide b2] (rd kWide r) := by
  refine PCon.of (Con.intro0 Tryz.func187 rfl Tryz.ntmps187 rfl fun w H => ?_)
  unfold F_r02_Or at h
  refine SR <| Ct rfl (op_box 3 rfl rfl (vt rfl)) ?_
  rintro _ ⟨g3, rfl⟩
  refine Ct rfl (op_box 4 rfl rfl (vt rfl)) ?_
  rintro _ ⟨g4, rfl⟩
  refine Ct rfl (op_alloc 5 rfl rfl zr42) ?_
  rintro _ ⟨g5, rfl⟩
  refine Nl <| SR <| FdA lWide_0 fl42_0 rfl <| Ld ty40 3 rfl <| FdA lWide_0 fl42_0 rfl <| Ld ty40 4 rfl <| Ac (op_or rfl rfl (vt rfl) (vt rfl)) rfl <| FdA lWide_1 fl42_1 rfl <| Ld ty40 3 rfl <| FdA lWide_1 fl42_1 rfl <| Ld ty40 4 rfl <| Ac (op_or rfl rfl (vt rfl) (vt rfl)) rfl <| Ac (op_build (ps := [(0, .tmp 9), (1, .tmp 14)]) (x := (⟨(a1.Hi ||| b2.Hi), (a1.Lo ||| b2.Lo)⟩ : Wide)) rfl rfl rfl (by kernel_rfl) zr42 ⟨_, _, lWide_0, _, by kernel_rfl, (vt rfl), _, _, lWide_1, _, by kernel_rfl, (vt rfl), rfl⟩) rfl <| Sto ty42 5 rfl <| Nl <| AW.ret ?_
  obtain rfl := si h
  exact ret1 Tryz.results187 rfl (out_cell rfl (i := 5) rfl ty42)
def F_r02_Low_l1 (n1 : Int) : Nat → Wide → Int → Option Wide
  | 0, _, _ => none
  | m8 + 1, b6, i7 => (bif ((decide (i7 < n1)) && (decide (i7 < 128))) then (F_r02_Bit i7).bind fun x9 => (F_r02_Or b6 x9).bind fun x10 => (F_r02_Low_l1 n1 m8) x10 (IntKind.i64.wrap (i7 + 1)) else some b6)
def F_r02_Low (n1 : Int) : Option Wide :=
  F_r02_Low_l1 n1 fuel0 (⟨0, 0⟩ : Wide) 0
theorem c_r02_Low (n1 : Int) (r : Wide) (h : F_r02_Low n1 = some r) : PCon Tryz.prog 307 [rd (kint .i64) n1] (rd kWide r) := by
  refine PCon.of (Con.intro0 Tryz.func307 rfl Tryz.ntmps307 rfl fun w H => ?_)
  unfold F_r02_Low at h
  refine SR <| Ct rfl (op_alloc 3 rfl rfl zr42) ?_
  rintro _ ⟨g2, rfl⟩
  refine Nl <| SR <| Ac (op_build (ps := []) (x := (⟨0, 0⟩ : Wide)) rfl rfl rfl (by kernel_rfl) zr42 rfl) rfl <| Ct rfl (op_alloc 4 rfl rfl zr42) ?_
  rintro _ ⟨g3, rfl⟩
  refine Sto ty42 4 rfl <| Nl <| AW.seq <| SR <| Ak rfl <| Nl <| AW.block <| AW.loopG (d := []) (ν := Nat × Wide × Int) (fun n => True ∧ F_r02_Low_l1 n1 n.1 n.2.1 n.2.2 = some r) (fun n => n.1) (fun n => [(0, rd (kint .i64) n1), (2, ptrL g2 (Lens.id kWide)), (3, ptrL g3 (Lens.id kWide)), (4, rd (kint .i64) n.2.2)]) (fun n => [(3, Blk g2 42 kWide zWide), (4, Blk g3 42 kWide n.2.1)]) (fuel0, (⟨0, 0⟩ : Wide), 0) ⟨trivial, h⟩ ⟨rfl, ⟨rfl, rfl, rfl, rfl, trivial⟩, ⟨rfl, rfl, trivial⟩⟩ ?_
  rintro ⟨m8, b6, i7⟩ ⟨hsf1, h⟩
  change True at hsf1
  change F_r02_Low_l1 n1 m8 b6 i7 = some r at h
  change AW _ _ _ ⟨slots [(0, rd (kint .i64) n1), (2, ptrL g2 (Lens.id kWide)), (3, ptrL g3 (Lens.id kWide)), (4, rd (kint .i64) i7)], ress [(3, Blk g2 42 kWide zWide), (4, Blk g3 42 kWide b6)], _⟩
  cases m8 with
  | zero => cases h
  | succ m8 =>
    unfold F_r02_Low_l1 at h
    generalize hgo1 : F_r02_Low_l1 n1 m8 = go1 at h
    refine AW.seq <| SR <| Md rfl <| Md rfl <| Ac (op_lss rfl rfl (vt rfl) (vt rfl)) rfl <| Md rfl <| Gd rfl (fun hq => op_move (A := rd (kint .i64) i7) rfl rfl (vt rfl)) <| Gd rfl (fun hq => op_lss rfl rfl (vgt rfl hq) (vk rfl)) <| Ac (op_all rfl rfl (vt rfl) (vt rfl)) rfl <| Nl <| Cn rfl (fun hc => ?_) (fun hc => ?_)
    · have h := cond_t hc h
      refine AW.skip <| AW.seq <| AW.block ?_
      obtain ⟨x9, hx9, h⟩ := bsome h
      obtain ⟨x10, hx10, h⟩ := bsome h
      refine AW.regionAny [⟨[3], [15], [4], []⟩, ⟨[4], [16], [], []⟩, ⟨[16], [17], [], []⟩, ⟨[15, 17], [18], [], []⟩, ⟨[3, 18], [], [4], [4]⟩] mixed (by kernel_rfl) <| SLd ty42 4 rfl <| SMd rfl <| SCl [16] (c_r02_Bit _ _ hx9) e309 rfl <| SCl [15, 17] (c_r02_Or _ _ _ hx10) e187 rfl <| SSt ty42 4 rfl <| Rg <| Md rfl <| Ac (op_add rfl rfl (vt rfl) (vk rfl)) rfl <| As rfl <| Nl ?_
      subst hgo1
      exact ⟨(m8, x10, (IntKind.i64.wrap (i7 + 1))), Nat.lt_succ_self _, ⟨trivial, h⟩, ⟨rfl, ⟨rfl, rfl, rfl, rfl, trivial⟩, ⟨rfl, rfl, trivial⟩⟩⟩
    · have h := cond_f hc h
      refine AW.exit <| SR <| Ld ty42 4 rfl <| Sto ty42 3 rfl <| Nl <| AW.ret ?_
      obtain rfl := si h
      exact ret1 Tryz.results307 rfl (out_cell rfl (i := 3) rfl ty42)
def F_r10_Tern (o1 : Oxm) : Option Tern :=
  (F_r03_Right o1.Field).bind fun x4 => (bif (!x4) then some (⟨zWide, zWide⟩ : Tern) else (bif o1.Masked then some (⟨o1.Value, o1.Mask⟩ : Tern) else (F_r03_Bits o1.Field).bind fun x5 => (F_r02_Low x5).bind fun x6 => some (⟨o1.Value, x6⟩ : Tern)))
theorem c_r10_Tern (o1 : Oxm) (r : Tern) (h : F_r10_Tern o1 = some r) : PCon Tryz.prog 271 [rd kOxm o1] (rd kTern r) := by
  refine PCon.of (Con.intro0 Tryz.func271 rfl Tryz.ntmps271 rfl fun w H => ?_)
  unfold F_r10_Tern at h
  refine SR <| Ct rfl (op_box 2 rfl rfl (vt rfl)) ?_
  rintro _ ⟨g2, rfl⟩
  refine Ct rfl (op_alloc 3 rfl rfl zr85) ?_
  rintro _ ⟨g3, rfl⟩
  refine Nl <| AW.seq <| AW.seq ?_
  obtain ⟨x4, hx4, h⟩ := bsome h
  refine Rg <| FdA lOxm_0 fl119_0 rfl <| Ld ty3 2 rfl <| Cl [4] (c_r03_Right _ _ hx4) e225 rfl <| Ac (op_not rfl rfl (vt rfl)) rfl <| Nl <| Cn rfl (fun hc => ?_) (fun hc => ?_)
  · have h := cond_t hc h
    refine SR <| Ac (op_build (ps := []) (x := (⟨zWide, zWide⟩ : Tern)) rfl rfl rfl (by kernel_rfl) zr85 rfl) rfl <| Sto ty85 3 rfl <| Nl <| AW.ret ?_
    obtain rfl := si h
    exact ret1 Tryz.results271 rfl (out_cell rfl (i := 3) rfl ty85)
  · have h := cond_f hc h
    refine AW.skip <| AW.seq <| SR <| FdA lOxm_1 fl119_1 rfl <| Ld ty4 2 rfl <| Nl <| Cn rfl (fun hc => ?_) (fun hc => ?_)
    · have h := cond_t hc h
      refine SR <| FdA lOxm_2 fl119_2 rfl <| Ld ty42 2 rfl <| FdA lOxm_3 fl119_3 rfl <| Ld ty42 2 rfl <| Ac (op_build (ps := [(0, .tmp 11), (1, .tmp 13)]) (x := (⟨o1.Value, o1.Mask⟩ : Tern)) rfl rfl rfl (by kernel_rfl) zr85 ⟨_, _, lTern_0, _, by kernel_rfl, (vt rfl), _, _, lTern_1, _, by kernel_rfl, (vt rfl), rfl⟩) rfl <| Sto ty85 3 rfl <| Nl <| AW.ret ?_
      obtain rfl := si h
      exact ret1 Tryz.results271 rfl (out_cell rfl (i := 3) rfl ty85)
    · have h := cond_f hc h
      refine AW.skip <| AW.seq ?_
      obtain ⟨x5, hx5, h⟩ := bsome h
      obtain ⟨x6, hx6, h⟩ := bsome h
      refine AW.regionAny [⟨[1], [15], [], []⟩, ⟨[15], [16], [2], []⟩, ⟨[1], [17], [], []⟩, ⟨[17], [18], [2], []⟩, ⟨[18], [19], [], []⟩, ⟨[19], [20], [], []⟩, ⟨[16, 20], [21], [], []⟩, ⟨[2, 21], [], [3], [3]⟩] mixed (by kernel_rfl) <| SFd lOxm_2 fl119_2 rfl <| SLd ty42 2 rfl <| SFd lOxm_0 fl119_0 rfl <| SLd ty3 2 rfl <| SCl [18] (c_r03_Bits _ _ hx5) e308 rfl <| SCl [19] (c_r02_Low _ _ hx6) e307 rfl <| Sc (lo [16, 20] [] rfl fun S hs hr => op_build (ps := [(0, .tmp 16), (1, .tmp 20)]) (x := (⟨o1.Value, x6⟩ : Tern)) rfl rfl rfl (by kernel_rfl) zr85 ⟨_, _, lTern_0, _, by kernel_rfl, (vh hs 16 rfl rfl), _, _, lTern_1, _, by kernel_rfl, (vh hs 20 rfl rfl), rfl⟩) rfl <| SSt ty85 3 rfl <| AW.ret ?_
      obtain rfl := si h
      exact ret1 Tryz.results271 rfl (out_cell rfl (i := 3) rfl ty85)
def F_r11_Cube_l1 (l1 : (List Oxm)) : Nat → (Vector Tern 24) → Int → Option (Vector Tern 24)
  | 0, _, _ => none
  | m8 + 1, b6, i7 => (bif (decide (i7 < (l1.length : Int))) then (lget l1 i7).bind fun e9 => (F_r03_Right e9.Field).bind fun x10 => (bif x10 then (lget l1 i7).bind fun e11 => (lget l1 i7).bind fun e12 => (F_r10_Tern e12).bind fun x13 => (chk 24 e11.Field).bind fun j14 => (F_r11_Cube_l1 l1 m8) (Vector.set b6 j14.1 x13 j14.2) (IntKind.i64.wrap (i7 + 1)) else (F_r11_Cube_l1 l1 m8) b6 (IntKind.i64.wrap (i7 + 1))) else some b6)
def F_r11_Cube (l1 : (List Oxm)) : Option (Vector Tern 24) :=
  F_r11_Cube_l1 l1 ((((l1.length : Int) : Int) - 0).toNat + 1) (Vector.replicate 24 zTern) 0
theorem c_r11_Cube (l1 : (List Oxm)) (r : (Vector Tern 24)) (h : F_r11_Cube l1 = some r) : PCon Tryz.prog 210 [rd (ksl kOxm) l1] (rd (karr 24 kTern) r) := by
  refine PCon.of (Con.intro0 Tryz.func210 rfl Tryz.ntmps210 rfl fun w H => ?_)
  unfold F_r11_Cube at h
  refine SR <| Ct rfl (op_alloc 3 rfl rfl zr87) ?_
  rintro _ ⟨g2, rfl⟩
  refine Nl <| SR <| Ac (op_build (ps := []) (x := (Vector.replicate 24 zTern)) rfl rfl rfl (by kernel_rfl) zr87 rfl) rfl <| Ct rfl (op_alloc 4 rfl rfl zr87) ?_
  rintro _ ⟨g3, rfl⟩
  refine Sto ty87 4 rfl <| Nl <| AW.seq <| SR <| Ak rfl <| Nl <| AW.block <| AW.loopG (d := []) (ν := Nat × (Vector Tern 24) × Int) (fun n => True ∧ F_r11_Cube_l1 l1 n.1 n.2.1 n.2.2 = some r) (fun n => n.1) (fun n => [(0, rd (ksl kOxm) l1), (2, ptrL g2 (Lens.id (karr 24 kTern))), (3, ptrL g3 (Lens.id (karr 24 kTern))), (4, rd (kint .i64) n.2.2)]) (fun n => [(3, Blk g2 87 (karr 24 kTern) (Vector.replicate 24 zTern)), (4, Blk g3 87 (karr 24 kTern) n.2.1)]) (((((l1.length : Int) : Int) - 0).toNat + 1), (Vector.replicate 24 zTern), 0) ⟨trivial, h⟩ ⟨rfl, ⟨rfl, rfl, rfl, rfl, trivial⟩, ⟨rfl, rfl, trivial⟩⟩ ?_
  rintro ⟨m8, b6, i7⟩ ⟨hsf1, h⟩
  change True at hsf1
  change F_r11_Cube_l1 l1 m8 b6 i7 = some r at h
  change AW _ _ _ ⟨slots [(0, rd (ksl kOxm) l1), (2, ptrL g2 (Lens.id (karr 24 kTern))), (3, ptrL g3 (Lens.id (karr 24 kTern))), (4, rd (kint .i64) i7)], ress [(3, Blk g2 87 (karr 24 kTern) (Vector.replicate 24 zTern)), (4, Blk g3 87 (karr 24 kTern) b6)], _⟩
  cases m8 with
  | zero => cases h
  | succ m8 =>
    unfold F_r11_Cube_l1 at h
    generalize hgo1 : F_r11_Cube_l1 l1 m8 = go1 at h
    refine AW.seq <| SR <| Md rfl <| Md rfl <| Ac (op_len' rfl rfl sl58 (vt rfl)) rfl <| Ac (op_lss rfl rfl (vt rfl) (vt rfl)) rfl <| Nl <| Cn rfl (fun hc => ?_) (fun hc => ?_)
    · have h := cond_t hc h
      refine AW.skip <| AW.seq <| AW.block <| AW.seq ?_
      obtain ⟨e9, he9, h⟩ := bsome h
      obtain ⟨x10, hx10, h⟩ := bsome h
      refine Rg <| Md rfl <| Md rfl <| Ac (op_indexs' rfl rfl sl58 (vt rfl) (vt rfl) he9) rfl <| Fp lOxm_0 fl119_0 rfl <| Lp1 ty3 rfl <| Cl [16] (c_r03_Right _ _ hx10) e225 rfl <| Nl <| Cn rfl (fun hc => ?_) (fun hc => ?_)
      · have h := cond_t hc h
        obtain ⟨e11, he11, h⟩ := bsome h
        obtain ⟨e12, he12, h⟩ := bsome h
        obtain ⟨x13, hx13, h⟩ := bsome h
        obtain ⟨j14, hj14, h⟩ := bsome h
        refine AW.regionAny [⟨[0], [18], [], []⟩, ⟨[4], [19], [], []⟩, ⟨[18, 19], [20], [], []⟩, ⟨[20], [21], [], []⟩, ⟨[21], [22], [], []⟩, ⟨[0], [23], [], []⟩, ⟨[4], [24], [], []⟩, ⟨[23, 24], [25], [], []⟩, ⟨[25], [26], [], []⟩, ⟨[26], [27], [], []⟩, ⟨[3, 22], [28], [], []⟩, ⟨[28, 27], [], [4], [4]⟩] mixed (by kernel_rfl) <| SMd rfl <| SMd rfl <| Sc (lo [18, 19] [] rfl fun S hs hr => op_indexs' rfl rfl sl58 (vh hs 18 rfl rfl) (vh hs 19 rfl rfl) he11) rfl <| SFp lOxm_0 fl119_0 rfl <| SLp ty3 rfl <| SMd rfl <| SMd rfl <| Sc (lo [23, 24] [] rfl fun S hs hr => op_indexs' rfl rfl sl58 (vh hs 23 rfl rfl) (vh hs 24 rfl rfl) he12) rfl <| SLp ty119 rfl <| SCl [26] (c_r10_Tern _ _ hx13) e271 rfl <| Sc (lo [3, 22] [] rfl fun S hs hr => op_index' rfl rfl ar87 (vh hs 3 rfl rfl) (vh hs 22 rfl rfl) hj14) rfl <| SSt ty85 4 rfl <| Rg <| Md rfl <| Ac (op_add rfl rfl (vt rfl) (vk rfl)) rfl <| As rfl <| Nl ?_
        subst hgo1
        exact ⟨(m8, (Vector.set b6 j14.1 x13 j14.2), (IntKind.i64.wrap (i7 + 1))), Nat.lt_succ_self _, ⟨trivial, h⟩, ⟨rfl, ⟨rfl, rfl, rfl, rfl, trivial⟩, ⟨rfl, rfl, trivial⟩⟩⟩
      · have h := cond_f hc h
        refine AW.skip <| Rg <| Md rfl <| Ac (op_add rfl rfl (vt rfl) (vk rfl)) rfl <| As rfl <| Nl ?_
        subst hgo1
        exact ⟨(m8, b6, (IntKind.i64.wrap (i7 + 1))), Nat.lt_succ_self _, ⟨trivial, h⟩, ⟨rfl, ⟨rfl, rfl, rfl, rfl, trivial⟩, ⟨rfl, rfl, trivial⟩⟩⟩
    · have h := cond_f hc h
      refine AW.exit <| SR <| Ld ty87 4 rfl <| Sto ty87 3 rfl <| Nl <| AW.ret ?_
      obtain rfl := si h
      exact ret1 Tryz.results210 rfl (out_cell rfl (i := 3) rfl ty87)
def F_r02_And (a1 : Wide) (b2 : Wide) : Option Wide :=
  some (⟨(a1.Hi &&& b2.Hi), (a1.Lo &&& b2.Lo)⟩ : Wide)
theorem c_r02_And (a1 : Wide) (b2 : Wide) (r : Wide) (h : F_r02_And a1 b2 = some r) : PCon Tryz.prog 189 [rd kWide a1, rd kWide b2] (rd kWide r) := by
  refine PCon.of (Con.intro0 Tryz.func189 rfl Tryz.ntmps189 rfl fun w H => ?_)
  unfold F_r02_And at h
  refine SR <| Ct rfl (op_box 3 rfl rfl (vt rfl)) ?_
  rintro _ ⟨g3, rfl⟩
  refine Ct rfl (op_box 4 rfl rfl (vt rfl)) ?_
  rintro _ ⟨g4, rfl⟩
  refine Ct rfl (op_alloc 5 rfl rfl zr42) ?_
  rintro _ ⟨g5, rfl⟩
  refine Nl <| SR <| FdA lWide_0 fl42_0 rfl <| Ld ty40 3 rfl <| FdA lWide_0 fl42_0 rfl <| Ld ty40 4 rfl <| Ac (op_and rfl rfl (vt rfl) (vt rfl)) rfl <| FdA lWide_1 fl42_1 rfl <| Ld ty40 3 rfl <| FdA lWide_1 fl42_1 rfl <| Ld ty40 4 rfl <| Ac (op_and rfl rfl (vt rfl) (vt rfl)) rfl <| Ac (op_build (ps := [(0, .tmp 9), (1, .tmp 14)]) (x := (⟨(a1.Hi &&& b2.Hi), (a1.Lo &&& b2.Lo)⟩ : Wide)) rfl rfl rfl (by kernel_rfl) zr42 ⟨_, _, lWide_0, _, by kernel_rfl, (vt rfl), _, _, lWide_1, _, by kernel_rfl, (vt rfl), rfl⟩) rfl <| Sto ty42 5 rfl <| Nl <| AW.ret ?_
  obtain rfl := si h
  exact ret1 Tryz.results189 rfl (out_cell rfl (i := 5) rfl ty42)
end Go.Proofs.YtknpgojdkobgjaaGreat.W
set_option linter.unusedVariables false
set_option maxRecDepth 4000
set_option linter.unusedSimpArgs false
namespace Go.Proofs.YtknpgojdkobgjaaGreat.W
open Go Go.Wb
theorem e189 : Ent Tryz.prog 189 := Ent.mk Tryz.func189 rfl rfl
theorem e144 : Ent Tryz.prog 144 := Ent.mk Tryz.func144 rfl rfl
theorem e210 : Ent Tryz.prog 210 := Ent.mk Tryz.func210 rfl rfl
theorem e83 : Ent Tryz.prog 83 := Ent.mk Tryz.func83 rfl rfl
theorem e233 : Ent Tryz.prog 233 := Ent.mk Tryz.func233 rfl rfl
theorem e232 : Ent Tryz.prog 232 := Ent.mk Tryz.func232 rfl rfl
theorem e167 : Ent Tryz.prog 167 := Ent.mk Tryz.func167 rfl rfl
theorem e139 : Ent Tryz.prog 139 := Ent.mk Tryz.func139 rfl rfl
theorem e141 : Ent Tryz.prog 141 := Ent.mk Tryz.func141 rfl rfl
theorem e102 : Ent Tryz.prog 102 := Ent.mk Tryz.func102 rfl rfl
theorem e222 : Ent Tryz.prog 222 := Ent.mk Tryz.func222 rfl rfl
def F_r05_Clean (t1 : Tern) : Option Tern :=
  (F_r02_And t1.Value t1.Mask).bind fun x4 => some (⟨x4, t1.Mask⟩ : Tern)
theorem c_r05_Clean (t1 : Tern) (r : Tern) (h : F_r05_Clean t1 = some r) : PCon Tryz.prog 144 [rd kTern t1] (rd kTern r) := by
  refine PCon.of (Con.intro0 Tryz.func144 rfl Tryz.ntmps144 rfl fun w H => ?_)
  unfold F_r05_Clean at h
  refine SR <| Ct rfl (op_box 2 rfl rfl (vt rfl)) ?_
  rintro _ ⟨g2, rfl⟩
  refine Ct rfl (op_alloc 3 rfl rfl zr85) ?_
  rintro _ ⟨g3, rfl⟩
  refine Nl <| AW.seq ?_
  obtain ⟨x4, hx4, h⟩ := bsome h
  refine AW.regionAny [⟨[1], [3], [], []⟩, ⟨[3], [4], [2], []⟩, ⟨[1], [5], [], []⟩, ⟨[5], [6], [2], []⟩, ⟨[4, 6], [7], [], []⟩, ⟨[1], [8], [], []⟩, ⟨[8], [9], [2], []⟩, ⟨[7, 9], [10], [], []⟩, ⟨[2, 10], [], [3], [3]⟩] mixed (by kernel_rfl) <| SFd lTern_0 fl85_0 rfl <| SLd ty42 2 rfl <| SFd lTern_1 fl85_1 rfl <| SLd ty42 2 rfl <| SCl [4, 6] (c_r02_And _ _ _ hx4) e189 rfl <| SFd lTern_1 fl85_1 rfl <| SLd ty42 2 rfl <| Sc (lo [7, 9] [] rfl fun S hs hr => op_build (ps := [(0, .tmp 7), (1, .tmp 9)]) (x := (⟨x4, t1.Mask⟩ : Tern)) rfl rfl rfl (by kernel_rfl) zr85 ⟨_, _, lTern_0, _, by kernel_rfl, (vh hs 7 rfl rfl), _, _, lTern_1, _, by kernel_rfl, (vh hs 9 rfl rfl), rfl⟩) rfl <| SSt ty85 3 rfl <| AW.ret ?_
  obtain rfl := si h
  exact ret1 Tryz.results144 rfl (out_cell rfl (i := 3) rfl ty85)
def F_r06_Clean_l1 : Nat → (Vector Tern 24) → Int → Option (Vector Tern 24)
  | 0, _, _ => none
  | m8 + 1, b6, f7 => (bif (decide (f7 < 24)) then (chk 24 f7).bind fun j9 => (F_r05_Clean (Vector.get b6 j9)).bind fun x10 => (chk 24 f7).bind fun j11 => (F_r06_Clean_l1 m8) (Vector.set b6 j11.1 x10 j11.2) (IntKind.i64.wrap (f7 + 1)) else some b6)
def F_r06_Clean (c_gosem_cut : (Vector Tern 24)) : Option (Vector Tern 24) :=
  F_r06_Clean_l1 (((24 : Int) - 0).toNat + 1) c_gosem_cut 0
theorem c_r06_Clean (c_gosem_cut : (Vector Tern 24)) (r : (Vector Tern 24)) (h : F_r06_Clean c_gosem_cut = some r) : PCon Tryz.prog 83 [rd (karr 24 kTern) c_gosem_cut] (rd (karr 24 kTern) r) := by
  refine PCon.of (Con.intro0 Tryz.func83 rfl Tryz.ntmps83 rfl fun w H => ?_)
  unfold F_r06_Clean at h
  refine SR <| Ct rfl (op_box 2 rfl rfl (vt rfl)) ?_
  rintro _ ⟨g2, rfl⟩
  refine Ct rfl (op_alloc 3 rfl rfl zr87) ?_
  rintro _ ⟨g3, rfl⟩
  refine Nl <| AW.seq <| SR <| Ak rfl <| Nl <| AW.block <| AW.loopG (d := []) (ν := Nat × (Vector Tern 24) × Int) (fun n => True ∧ F_r06_Clean_l1 n.1 n.2.1 n.2.2 = some r) (fun n => n.1) (fun n => [(1, ptrL g2 (Lens.id (karr 24 kTern))), (2, ptrL g3 (Lens.id (karr 24 kTern))), (3, rd (kint .i64) n.2.2)]) (fun n => [(2, Blk g2 87 (karr 24 kTern) n.2.1), (3, Blk g3 87 (karr 24 kTern) (Vector.replicate 24 zTern))]) ((((24 : Int) - 0).toNat + 1), c_gosem_cut, 0) ⟨trivial, h⟩ ⟨rfl, ⟨rfl, rfl, rfl, trivial⟩, ⟨rfl, rfl, trivial⟩⟩ ?_
  rintro ⟨m8, b6, f7⟩ ⟨hsf1, h⟩
  change True at hsf1
  change F_r06_Clean_l1 m8 b6 f7 = some r at h
  change AW _ _ _ ⟨slots [(1, ptrL g2 (Lens.id (karr 24 kTern))), (2, ptrL g3 (Lens.id (karr 24 kTern))), (3, rd (kint .i64) f7)], ress [(2, Blk g2 87 (karr 24 kTern) b6), (3, Blk g3 87 (karr 24 kTern) (Vector.replicate 24 zTern))], _⟩
  cases m8 with
  | zero => cases h
  | succ m8 =>
    unfold F_r06_Clean_l1 at h
    generalize hgo1 : F_r06_Clean_l1 m8 = go1 at h
    refine AW.seq <| SR <| Md rfl <| Ac (op_lss rfl rfl (vt rfl) (vk rfl)) rfl <| Nl <| Cn rfl (fun hc => ?_) (fun hc => ?_)
    · have h := cond_t hc h
      refine AW.skip <| AW.seq <| AW.block ?_
      obtain ⟨j9, hj9, h⟩ := bsome h
      obtain ⟨x10, hx10, h⟩ := bsome h
      obtain ⟨j11, hj11, h⟩ := bsome h
      refine Rg <| Md rfl <| Md rfl <| Ac (op_index' rfl rfl ar87 (vt rfl) (vt rfl) hj9) rfl <| Ld ty85 2 rfl <| Cl [11] (c_r05_Clean _ _ hx10) e144 rfl <| Ac (op_index' rfl rfl ar87 (vt rfl) (vt rfl) hj11) rfl <| Sto ty85 2 rfl <| Nl <| Rg <| Md rfl <| Ac (op_add rfl rfl (vt rfl) (vk rfl)) rfl <| As rfl <| Nl ?_
      subst hgo1
      exact ⟨(m8, (Vector.set b6 j11.1 x10 j11.2), (IntKind.i64.wrap (f7 + 1))), Nat.lt_succ_self _, ⟨trivial, h⟩, ⟨rfl, ⟨rfl, rfl, rfl, trivial⟩, ⟨rfl, rfl, trivial⟩⟩⟩
    · have h := cond_f hc h
      refine AW.exit <| SR <| Ld ty87 2 rfl <| Sto ty87 3 rfl <| Nl <| AW.ret ?_
      obtain rfl := si h
      exact ret1 Tryz.results83 rfl (out_cell rfl (i := 3) rfl ty87)
def F_r21_Cube (f1 : Flow) : Option (Vector Tern 24) :=
  (F_r11_Cube f1.Match).bind fun x4 => (F_r06_Clean x4).bind fun x5 => some x5
theorem c_r21_Cube (f1 : Flow) (r : (Vector Tern 24)) (h : F_r21_Cube f1 = some r) : PCon Tryz.prog 141 [rd kFlow f1] (rd (karr 24 kTern) r) := by
  refine PCon.of (Con.intro0 Tryz.func141 rfl Tryz.ntmps141 rfl fun w H => ?_)
  unfold F_r21_Cube at h
  refine SR <| Ct rfl (op_box 2 rfl rfl (vt rfl)) ?_
  rintro _ ⟨g2, rfl⟩
  refine Ct rfl (op_alloc 3 rfl rfl zr87) ?_
  rintro _ ⟨g3, rfl⟩
  refine Nl <| AW.seq ?_
  obtain ⟨x4, hx4, h⟩ := bsome h
  obtain ⟨x5, hx5, h⟩ := bsome h
  refine Rg <| FdA lFlow_5 fl61_5 rfl <| Ld ty58 2 rfl <| Cl [4] (c_r11_Cube _ _ hx4) e210 rfl <| Cl [5] (c_r06_Clean _ _ hx5) e83 rfl <| Sto ty87 3 rfl <| Nl <| AW.ret ?_
  obtain rfl := si h
  exact ret1 Tryz.results141 rfl (out_cell rfl (i := 3) rfl ty87)
def F_r02_Xor (a1 : Wide) (b2 : Wide) : Option Wide :=
  some (⟨(a1.Hi ^^^ b2.Hi), (a1.Lo ^^^ b2.Lo)⟩ : Wide)
theorem c_r02_Xor (a1 : Wide) (b2 : Wide) (r : Wide) (h : F_r02_Xor a1 b2 = some r) : PCon Tryz.prog 233 [rd kWide a1, rd kWide b2] (rd kWide r) := by
  refine PCon.of (Con.intro0 Tryz.func233 rfl Tryz.ntmps233 rfl fun w H => ?_)
  unfold F_r02_Xor at h
  refine SR <| Ct rfl (op_box 3 rfl rfl (vt rfl)) ?_
  rintro _ ⟨g3, rfl⟩
  refine Ct rfl (op_box 4 rfl rfl (vt rfl)) ?_
  rintro _ ⟨g4, rfl⟩
  refine Ct rfl (op_alloc 5 rfl rfl zr42) ?_
  rintro _ ⟨g5, rfl⟩
  refine Nl <| SR <| FdA lWide_0 fl42_0 rfl <| Ld ty40 3 rfl <| FdA lWide_0 fl42_0 rfl <| Ld ty40 4 rfl <| Ac (op_xor rfl rfl (vt rfl) (vt rfl)) rfl <| FdA lWide_1 fl42_1 rfl <| Ld ty40 3 rfl <| FdA lWide_1 fl42_1 rfl <| Ld ty40 4 rfl <| Ac (op_xor rfl rfl (vt rfl) (vt rfl)) rfl <| Ac (op_build (ps := [(0, .tmp 9), (1, .tmp 14)]) (x := (⟨(a1.Hi ^^^ b2.Hi), (a1.Lo ^^^ b2.Lo)⟩ : Wide)) rfl rfl rfl (by kernel_rfl) zr42 ⟨_, _, lWide_0, _, by kernel_rfl, (vt rfl), _, _, lWide_1, _, by kernel_rfl, (vt rfl), rfl⟩) rfl <| Sto ty42 5 rfl <| Nl <| AW.ret ?_
  obtain rfl := si h
  exact ret1 Tryz.results233 rfl (out_cell rfl (i := 5) rfl ty42)
def F_r02_Zero (a1 : Wide) : Option Bool :=
  some ((decide (a1.Hi = (0 : BitVec 64))) && (decide (a1.Lo = (0 : BitVec 64))))
theorem c_r02_Zero (a1 : Wide) (r : Bool) (h : F_r02_Zero a1 = some r) : PCon Tryz.prog 232 [rd kWide a1] (rd kbool r) := by
  refine PCon.of (Con.intro0 Tryz.func232 rfl Tryz.ntmps232 rfl fun w H => ?_)
  unfold F_r02_Zero at h
  refine SR <| Ct rfl (op_box 2 rfl rfl (vt rfl)) ?_
  rintro _ ⟨g2, rfl⟩
  refine Ab rfl <| Nl <| SR <| FdA lWide_0 fl42_0 rfl <| Ld ty40 2 rfl <| Ac (op_eqlu rfl rfl (vt rfl) (vku (0 : BitVec 64) rfl)) rfl <| Md rfl <| Gd rfl (fun hq => op_field lWide_1 rfl rfl fl42_1 (vt rfl)) <| Gd rfl (fun hq => op_load rfl rfl ty40 (vgt rfl hq) (i := 2) rfl) <| Gd rfl (fun hq => op_eqlu rfl rfl (vgt rfl hq) (vku (0 : BitVec 64) rfl)) <| Ac (op_all rfl rfl (vt rfl) (vt rfl)) rfl <| As rfl <| Nl <| AW.ret ?_
  obtain rfl := si h
  exact ret1 Tryz.results232 rfl (out_tmp rfl)
def F_r05_Has (t1 : Tern) (v2 : Wide) : Option Bool :=
  (F_r02_Xor t1.Value v2).bind fun x5 => (F_r02_And x5 t1.Mask).bind fun x6 => (F_r02_Zero x6).bind fun x7 => some x7
theorem c_r05_Has (t1 : Tern) (v2 : Wide) (r : Bool) (h : F_r05_Has t1 v2 = some r) : PCon Tryz.prog 167 [rd kTern t1, rd kWide v2] (rd kbool r) := by
  refine PCon.of (Con.intro0 Tryz.func167 rfl Tryz.ntmps167 rfl fun w H => ?_)
  unfold F_r05_Has at h
  refine SR <| Ct rfl (op_box 3 rfl rfl (vt rfl)) ?_
  rintro _ ⟨g3, rfl⟩
  refine Ct rfl (op_box 4 rfl rfl (vt rfl)) ?_
  rintro _ ⟨g4, rfl⟩
  refine Ab rfl <| Nl <| AW.seq ?_
  obtain ⟨x5, hx5, h⟩ := bsome h
  obtain ⟨x6, hx6, h⟩ := bsome h
  obtain ⟨x7, hx7, h⟩ := bsome h
  refine AW.regionAny [⟨[2], [5], [], []⟩, ⟨[5], [6], [3], []⟩, ⟨[3], [7], [4], []⟩, ⟨[6, 7], [8], [], []⟩, ⟨[2], [9], [], []⟩, ⟨[9], [10], [3], []⟩, ⟨[8, 10], [11], [], []⟩, ⟨[11], [12], [], []⟩, ⟨[12], [4], [], []⟩] mixed (by kernel_rfl) <| SFd lTern_0 fl85_0 rfl <| SLd ty42 3 rfl <| SLd ty42 4 rfl <| SCl [6, 7] (c_r02_Xor _ _ _ hx5) e233 rfl <| SFd lTern_1 fl85_1 rfl <| SLd ty42 3 rfl <| SCl [8, 10] (c_r02_And _ _ _ hx6) e189 rfl <| SCl [11] (c_r02_Zero _ _ hx7) e232 rfl <| SAs rfl <| AW.ret ?_
  obtain rfl := si h
  exact ret1 Tryz.results167 rfl (out_tmp rfl)
def F_r06_Has_l1 (c_gosem_cut : (Vector Tern 24)) (h2 : (Vector Wide 24)) : Nat → Int → Option Bool
  | 0, _ => none
  | m7 + 1, f6 => (bif (decide (f6 < 24)) then (chk 24 f6).bind fun j8 => (chk 24 f6).bind fun j9 => (F_r05_Has (Vector.get c_gosem_cut j8) (Vector.get h2 j9)).bind fun x10 => (bif (!x10) then some false else (F_r06_Has_l1 c_gosem_cut h2 m7) (IntKind.i64.wrap (f6 + 1))) else some true)
def F_r06_Has (c_gosem_cut : (Vector Tern 24)) (h2 : (Vector Wide 24)) : Option Bool :=
  F_r06_Has_l1 c_gosem_cut h2 (((24 : Int) - 0).toNat + 1) 0
theorem c_r06_Has (c_gosem_cut : (Vector Tern 24)) (h2 : (Vector Wide 24)) (r : Bool) (h : F_r06_Has c_gosem_cut h2 = some r) : PCon Tryz.prog 102 [rd (karr 24 kTern) c_gosem_cut, rd (karr 24 kWide) h2] (rd kbool r) := by
  refine PCon.of (Con.intro0 Tryz.func102 rfl Tryz.ntmps102 rfl fun w H => ?_)
  unfold F_r06_Has at h
  refine SR <| Ct rfl (op_box 3 rfl rfl (vt rfl)) ?_
  rintro _ ⟨g3, rfl⟩
  refine Ct rfl (op_box 4 rfl rfl (vt rfl)) ?_
  rintro _ ⟨g4, rfl⟩
  refine Ab rfl <| Nl <| AW.seq <| SR <| Ak rfl <| Nl <| AW.block <| AW.loopG (d := []) (ν := Nat × Int) (fun n => True ∧ F_r06_Has_l1 c_gosem_cut h2 n.1 n.2 = some r) (fun n => n.1) (fun n => [(2, ptrL g3 (Lens.id (karr 24 kTern))), (3, ptrL g4 (Lens.id (karr 24 kWide))), (5, rd (kint .i64) n.2)]) (fun n => [(3, Blk g3 87 (karr 24 kTern) c_gosem_cut), (4, Blk g4 44 (karr 24 kWide) h2)]) ((((24 : Int) - 0).toNat + 1), 0) ⟨trivial, h⟩ ⟨rfl, ⟨rfl, rfl, rfl, trivial⟩, ⟨rfl, rfl, trivial⟩⟩ ?_
  rintro ⟨m7, f6⟩ ⟨hsf1, h⟩
  change True at hsf1
  change F_r06_Has_l1 c_gosem_cut h2 m7 f6 = some r at h
  change AW _ _ _ ⟨slots [(2, ptrL g3 (Lens.id (karr 24 kTern))), (3, ptrL g4 (Lens.id (karr 24 kWide))), (5, rd (kint .i64) f6)], ress [(3, Blk g3 87 (karr 24 kTern) c_gosem_cut), (4, Blk g4 44 (karr 24 kWide) h2)], _⟩
  cases m7 with
  | zero => cases h
  | succ m7 =>
    unfold F_r06_Has_l1 at h
    generalize hgo1 : F_r06_Has_l1 c_gosem_cut h2 m7 = go1 at h
    refine AW.seq <| SR <| Md rfl <| Ac (op_lss rfl rfl (vt rfl) (vk rfl)) rfl <| Nl <| Cn rfl (fun hc => ?_) (fun hc => ?_)
    · have h := cond_t hc h
      refine AW.skip <| AW.seq <| AW.block <| AW.seq ?_
      obtain ⟨j8, hj8, h⟩ := bsome h
      obtain ⟨j9, hj9, h⟩ := bsome h
      obtain ⟨x10, hx10, h⟩ := bsome h
      refine AW.regionAny [⟨[5], [10], [], []⟩, ⟨[2, 10], [11], [], []⟩, ⟨[11], [12], [3], []⟩, ⟨[5], [13], [], []⟩, ⟨[3, 13], [14], [], []⟩, ⟨[14], [15], [4], []⟩, ⟨[12, 15], [16], [], []⟩, ⟨[16], [17], [], []⟩] mixed (by kernel_rfl) <| SMd rfl <| Sc (lo [2, 10] [] rfl fun S hs hr => op_index' rfl rfl ar87 (vh hs 2 rfl rfl) (vh hs 10 rfl rfl) hj8) rfl <| SLd ty85 3 rfl <| SMd rfl <| Sc (lo [3, 13] [] rfl fun S hs hr => op_index' rfl rfl ar44 (vh hs 3 rfl rfl) (vh hs 13 rfl rfl) hj9) rfl <| SLd ty42 4 rfl <| SCl [12, 15] (c_r05_Has _ _ _ hx10) e167 rfl <| Sc (lo [16] [] rfl fun S hs hr => op_not rfl rfl (vh hs 16 rfl rfl)) rfl <| Cn rfl (fun hc => ?_) (fun hc => ?_)
      · have h := cond_t hc h
        refine SR <| Ab rfl <| Nl <| AW.ret ?_
        obtain rfl := si h
        exact ret1 Tryz.results102 rfl (out_tmp rfl)
      · have h := cond_f hc h
        refine AW.skip <| Rg <| Md rfl <| Ac (op_add rfl rfl (vt rfl) (vk rfl)) rfl <| As rfl <| Nl ?_
        subst hgo1
        exact ⟨(m7, (IntKind.i64.wrap (f6 + 1))), Nat.lt_succ_self _, ⟨trivial, h⟩, ⟨rfl, ⟨rfl, rfl, rfl, trivial⟩, ⟨rfl, rfl, trivial⟩⟩⟩
    · have h := cond_f hc h
      refine AW.exit <| SR <| Ab rfl <| Nl <| AW.ret ?_
      obtain rfl := si h
      exact ret1 Tryz.results102 rfl (out_tmp rfl)
def F_r27_List_l1 (x5 : (List Int)) (t1 : (List Flow)) (h2 : (Vector Wide 24)) : Nat → (List Int) → Int → Option (List Int)
  | 0, _, _ => none
  | m12 + 1, l9, i11 => (bif (decide (i11 < (x5.length : Int))) then (lget x5 i11).bind fun e13 => (lget t1 e13).bind fun e14 => (F_r21_Cube e14).bind fun x15 => (F_r06_Has x15 h2).bind fun x16 => (bif x16 then (lget x5 i11).bind fun e17 => (appd l9 [e17]).bind fun l18 => (F_r27_List_l1 x5 t1 h2 m12) l18 (IntKind.i64.wrap (i11 + 1)) else (F_r27_List_l1 x5 t1 h2 m12) l9 (IntKind.i64.wrap (i11 + 1))) else some l9)
def F_r27_List (t1 : (List Flow)) (h2 : (Vector Wide 24)) : Option (List Int) :=
  (F_r27_Order t1).bind fun x5 => F_r27_List_l1 x5 t1 h2 ((((x5.length : Int) : Int) - 0).toNat + 1) [] 0
theorem c_r27_List (t1 : (List Flow)) (h2 : (Vector Wide 24)) (r : (List Int)) (h : F_r27_List t1 h2 = some r) : PCon Tryz.prog 222 [rd (ksl kFlow) t1, rd (karr 24 kWide) h2] (rd (ksl (kint .i64)) r) := by
  refine PCon.of (Con.intro0 Tryz.func222 rfl Tryz.ntmps222 rfl fun w H => ?_)
  unfold F_r27_List at h
  refine SR <| Ct rfl (op_box 4 rfl rfl (vt rfl)) ?_
  rintro _ ⟨g3, rfl⟩
  refine Ac (op_assign (A := rd (ksl (kint .i64)) []) rfl rfl vnil) rfl <| Nl <| SR <| Ct rfl (op_buildSlice 1001 (ps := []) (l := []) rfl rfl sl37 zr3 rfl rfl rfl rfl) ?_
  rintro _ ⟨v4, rfl⟩
  refine Aw rfl <| Nl <| AW.seq ?_
  obtain ⟨x5, hx5, h⟩ := bsome h
  refine Rg <| Md rfl <| Cl [9] (c_r27_Order _ _ hx5) e139 rfl <| As rfl <| Nl <| AW.seq <| SR <| Ak rfl <| Nl <| AW.block <| AW.loopG (d := []) (ν := Nat × (List Int) × Int × Value) (fun n => True ∧ F_r27_List_l1 x5 t1 h2 n.1 n.2.1 n.2.2.1 = some r) (fun n => n.1) (fun n => [(0, rd (ksl kFlow) t1), (3, ptrL g3 (Lens.id (karr 24 kWide))), (5, raw n.2.2.2), (6, rd (ksl (kint .i64)) x5), (7, rd (kint .i64) n.2.2.1)]) (fun n => [(4, Blk g3 44 (karr 24 kWide) h2), (1001, Row n.2.2.2 3 (kint .i64) n.2.1)]) (((((x5.length : Int) : Int) - 0).toNat + 1), [], 0, v4) ⟨trivial, h⟩ ⟨rfl, ⟨rfl, rfl, rfl, rfl, rfl, trivial⟩, ⟨rfl, rfl, trivial⟩⟩ ?_
  rintro ⟨m12, l9, i11, v10⟩ ⟨hsf1, h⟩
  change True at hsf1
  change F_r27_List_l1 x5 t1 h2 m12 l9 i11 = some r at h
  change AW _ _ _ ⟨slots [(0, rd (ksl kFlow) t1), (3, ptrL g3 (Lens.id (karr 24 kWide))), (5, raw v10), (6, rd (ksl (kint .i64)) x5), (7, rd (kint .i64) i11)], ress [(4, Blk g3 44 (karr 24 kWide) h2), (1001, Row v10 3 (kint .i64) l9)], _⟩
  cases m12 with
  | zero => cases h
  | succ m12 =>
    unfold F_r27_List_l1 at h
    generalize hgo1 : F_r27_List_l1 x5 t1 h2 m12 = go1 at h
    refine AW.seq <| SR <| Md rfl <| Md rfl <| Ac (op_len' rfl rfl sl37 (vt rfl)) rfl <| Ac (op_lss rfl rfl (vt rfl) (vt rfl)) rfl <| Nl <| Cn rfl (fun hc => ?_) (fun hc => ?_)
    · have h := cond_t hc h
      refine AW.skip <| AW.seq <| AW.block <| AW.seq ?_
      obtain ⟨e13, he13, h⟩ := bsome h
      obtain ⟨e14, he14, h⟩ := bsome h
      obtain ⟨x15, hx15, h⟩ := bsome h
      obtain ⟨x16, hx16, h⟩ := bsome h
      refine AW.regionAny [⟨[0], [17], [], []⟩, ⟨[6], [18], [], []⟩, ⟨[7], [19], [], []⟩, ⟨[18, 19], [20], [], []⟩, ⟨[20], [21], [], []⟩, ⟨[17, 21], [22], [], []⟩, ⟨[22], [23], [], []⟩, ⟨[23], [24], [], []⟩, ⟨[3], [25], [4], []⟩, ⟨[24, 25], [26], [], []⟩] mixed (by kernel_rfl) <| SMd rfl <| SMd rfl <| SMd rfl <| Sc (lo [18, 19] [] rfl fun S hs hr => op_indexs' rfl rfl sl37 (vh hs 18 rfl rfl) (vh hs 19 rfl rfl) he13) rfl <| SLp ty3 rfl <| Sc (lo [17, 21] [] rfl fun S hs hr => op_indexs' rfl rfl sl22 (vh hs 17 rfl rfl) (vh hs 21 rfl rfl) he14) rfl <| SLp ty61 rfl <| SCl [23] (c_r21_Cube _ _ hx15) e141 rfl <| SLd ty44 4 rfl <| SCl [24, 25] (c_r06_Has _ _ _ hx16) e102 rfl <| Cn rfl (fun hc => ?_) (fun hc => ?_)
      · have h := cond_t hc h
        obtain ⟨e17, he17, h⟩ := bsome h
        obtain ⟨l18, hl18, h⟩ := bsome h
        refine Rg <| Mw rfl <| Md rfl <| Md rfl <| Ac (op_indexs' rfl rfl sl37 (vt rfl) (vt rfl) he17) rfl <| Lp1 ty3 rfl <| Ac (op_buildSliceR (ps := [(0, .tmp 31)]) (l := [e17]) rfl rfl sl37 zr3 rfl rfl ⟨_, _, Lens.idx 1 (kint .i64) 0 (by decide), _, rfl, (vt rfl), rfl⟩ rfl) rfl <| Ct rfl (op_append' 1001 hl18 rfl rfl el37 (vt rfl) rfl (vt rfl)) ?_
        rintro _ ⟨v19, rfl⟩
        refine Aw rfl <| Nl <| Rg <| Md rfl <| Ac (op_add rfl rfl (vt rfl) (vk rfl)) rfl <| As rfl <| Nl ?_
        subst hgo1
        exact ⟨(m12, l18, (IntKind.i64.wrap (i11 + 1)), v19), Nat.lt_succ_self _, ⟨trivial, h⟩, ⟨rfl, ⟨rfl, rfl, rfl, rfl, rfl, trivial⟩, ⟨rfl, rfl, trivial⟩⟩⟩
      · have h := cond_f hc h
        refine AW.skip <| Rg <| Md rfl <| Ac (op_add rfl rfl (vt rfl) (vk rfl)) rfl <| As rfl <| Nl ?_
        subst hgo1
        exact ⟨(m12, l9, (IntKind.i64.wrap (i11 + 1)), v10), Nat.lt_succ_self _, ⟨trivial, h⟩, ⟨rfl, ⟨rfl, rfl, rfl, rfl, rfl, trivial⟩, ⟨rfl, rfl, trivial⟩⟩⟩
    · have h := cond_f hc h
      refine AW.exit <| SR <| Mw rfl <| Aw rfl <| Nl <| AW.freezes [4, 5, 34] 1001 rfl ⟨rfl, rfl, rfl, trivial⟩ rfl <| AW.ret ?_
      obtain rfl := si h
      exact ret1 Tryz.results222 rfl (out_tmp rfl)
def F_r27_Find (t1 : (List Flow)) (h2 : (Vector Wide 24)) : Option (Int × Bool) :=
  (F_r27_List t1 h2).bind fun x4 => (bif (decide ((x4.length : Int) = 0)) then some (0, false) else (lget x4 0).bind fun e5 => some (e5, true))
theorem c_r27_Find (t1 : (List Flow)) (h2 : (Vector Wide 24)) (r : (Int × Bool)) (h : F_r27_Find t1 h2 = some r) : PCon Tryz.prog 150 [rd (ksl kFlow) t1, rd (karr 24 kWide) h2] (tup2 (rd (kint .i64) r.1) (rd kbool r.2)) := by
  refine PCon.of (Con.intro0 Tryz.func150 rfl Tryz.ntmps150 rfl fun w H => ?_)
  unfold F_r27_Find at h
  refine SR <| Ct rfl (op_box 4 rfl rfl (vt rfl)) ?_
  rintro _ ⟨g3, rfl⟩
  refine Ak rfl <| Ab rfl <| Nl <| AW.seq ?_
  obtain ⟨x4, hx4, h⟩ := bsome h
  refine Rg <| Md rfl <| Ld ty44 4 rfl <| Cl [7, 8] (c_r27_List _ _ _ hx4) e222 rfl <| As rfl <| Nl <| AW.seq <| SR <| Md rfl <| Ac (op_len' rfl rfl sl37 (vt rfl)) rfl <| Ac (op_eql rfl rfl (vt rfl) (vk rfl)) rfl <| Nl <| Cn rfl (fun hc => ?_) (fun hc => ?_)
  · have h := cond_t hc h
    refine SR <| Ak rfl <| Ab rfl <| Nl <| AW.ret ?_
    obtain rfl := si h
    exact ret2 Tryz.results150 rfl (out_tmp rfl) (out_tmp rfl)
  · have h := cond_f hc h
    refine AW.skip <| AW.seq ?_
    obtain ⟨e5, he5, h⟩ := bsome h
    refine Rg <| Md rfl <| Ac (op_indexs' rfl rfl sl37 (vt rfl) (vk rfl) he5) rfl <| Lp1 ty3 rfl <| As rfl <| Ab rfl <| Nl <| AW.ret ?_
    obtain rfl := si h
    exact ret2 Tryz.results150 rfl (out_tmp rfl) (out_tmp rfl)
end Go.Proofs.YtknpgojdkobgjaaGreat.W
set_option linter.unusedVariables false
set_option maxRecDepth 4000
set_option linter.unusedSimpArgs false
namespace Go.Proofs.YtknpgojdkobgjaaGreat.W
open Go Go.Wb
theorem e313 : Ent Tryz.prog 313 := Ent.mk Tryz.func313 rfl rfl
theorem e314 : Ent Tryz.prog 314 := Ent.mk Tryz.func314 rfl rfl
theorem e315 : Ent Tryz.prog 315 := Ent.mk Tryz.func315 rfl rfl
theorem e224 : Ent Tryz.prog 224 := Ent.mk Tryz.func224 rfl rfl
def F_r14_Of_l1 (l1 : (List Inst)) (kind2 : Int) : Nat → Int → Option (Inst × Bool)
  | 0, _ => none
  | m6 + 1, i5 => (bif (decide (i5 < (l1.length : Int))) then (lget l1 i5).bind fun e7 => (bif (decide (e7.Kind = kind2)) then (lget l1 i5).bind fun e8 => some (e8, true) else (F_r14_Of_l1 l1 kind2 m6) (IntKind.i64.wrap (i5 + 1))) else some ((⟨0, 0, zWide, zWide, []⟩ : Inst), false))
def F_r14_Of (l1 : (List Inst)) (kind2 : Int) : Option (Inst × Bool) :=
  F_r14_Of_l1 l1 kind2 ((((l1.length : Int) : Int) - 0).toNat + 1) 0
theorem c_r14_Of (l1 : (List Inst)) (kind2 : Int) (r : (Inst × Bool)) (h : F_r14_Of l1 kind2 = some r) : PCon Tryz.prog 151 [rd (ksl kInst) l1, rd (kint .i64) kind2] (tup2 (rd kInst r.1) (rd kbool r.2)) := by
  refine PCon.of (Con.intro0 Tryz.func151 rfl Tryz.ntmps151 rfl fun w H => ?_)
  unfold F_r14_Of at h
  refine SR <| Ct rfl (op_alloc 5 rfl rfl zr124) ?_
  rintro _ ⟨g3, rfl⟩
  refine Ab rfl <| Nl <| AW.seq <| SR <| Ak rfl <| Nl <| AW.block <| AW.loopG (d := []) (ν := Nat × Int) (fun n => True ∧ F_r14_Of_l1 l1 kind2 n.1 n.2 = some r) (fun n => n.1) (fun n => [(0, rd (ksl kInst) l1), (1, rd (kint .i64) kind2), (4, ptrL g3 (Lens.id kInst)), (6, rd (kint .i64) n.2)]) (fun n => [(5, Blk g3 124 kInst zInst)]) (((((l1.length : Int) : Int) - 0).toNat + 1), 0) ⟨trivial, h⟩ ⟨rfl, ⟨rfl, rfl, rfl, rfl, trivial⟩, ⟨rfl, trivial⟩⟩ ?_
  rintro ⟨m6, i5⟩ ⟨hsf1, h⟩
  change True at hsf1
  change F_r14_Of_l1 l1 kind2 m6 i5 = some r at h
  change AW _ _ _ ⟨slots [(0, rd (ksl kInst) l1), (1, rd (kint .i64) kind2), (4, ptrL g3 (Lens.id kInst)), (6, rd (kint .i64) i5)], ress [(5, Blk g3 124 kInst zInst)], _⟩
  cases m6 with
  | zero => cases h
  | succ m6 =>
    unfold F_r14_Of_l1 at h
    generalize hgo1 : F_r14_Of_l1 l1 kind2 m6 = go1 at h
    refine AW.seq <| SR <| Md rfl <| Md rfl <| Ac (op_len' rfl rfl sl59 (vt rfl)) rfl <| Ac (op_lss rfl rfl (vt rfl) (vt rfl)) rfl <| Nl <| Cn rfl (fun hc => ?_) (fun hc => ?_)
    · have h := cond_t hc h
      refine AW.skip <| AW.seq <| AW.block <| AW.seq ?_
      obtain ⟨e7, he7, h⟩ := bsome h
      refine Rg <| Md rfl <| Md rfl <| Ac (op_indexs' rfl rfl sl59 (vt rfl) (vt rfl) he7) rfl <| Fp lInst_0 fl124_0 rfl <| Lp1 ty3 rfl <| Md rfl <| Ac (op_eql rfl rfl (vt rfl) (vt rfl)) rfl <| Nl <| Cn rfl (fun hc => ?_) (fun hc => ?_)
      · have h := cond_t hc h
        refine AW.seq ?_
        obtain ⟨e8, he8, h⟩ := bsome h
        refine Rg <| Md rfl <| Md rfl <| Ac (op_indexs' rfl rfl sl59 (vt rfl) (vt rfl) he8) rfl <| Lp1 ty124 rfl <| Sto ty124 5 rfl <| Ab rfl <| Nl <| AW.ret ?_
        obtain rfl := si h
        exact ret2 Tryz.results151 rfl (out_cell rfl (i := 5) rfl ty124) (out_tmp rfl)
      · have h := cond_f hc h
        refine AW.skip <| Rg <| Md rfl <| Ac (op_add rfl rfl (vt rfl) (vk rfl)) rfl <| As rfl <| Nl ?_
        subst hgo1
        exact ⟨(m6, (IntKind.i64.wrap (i5 + 1))), Nat.lt_succ_self _, ⟨trivial, h⟩, ⟨rfl, ⟨rfl, rfl, rfl, rfl, trivial⟩, ⟨rfl, trivial⟩⟩⟩
    · have h := cond_f hc h
      refine AW.exit <| SR <| Ac (op_build (ps := []) (x := (⟨0, 0, zWide, zWide, []⟩ : Inst)) rfl rfl rfl (by kernel_rfl) zr124 rfl) rfl <| Sto ty124 5 rfl <| Ab rfl <| Nl <| AW.ret ?_
      obtain rfl := si h
      exact ret2 Tryz.results151 rfl (out_cell rfl (i := 5) rfl ty124) (out_tmp rfl)
def F_r24_place_l1 (l1 : (List Group)) (id2 : Int) : Nat → Int → Option Int
  | 0, _ => none
  | m5 + 1, i4 => (bif (decide (i4 < (l1.length : Int))) then (lget l1 i4).bind fun e6 => (bif (decide (e6.ID = id2)) then some i4 else (F_r24_place_l1 l1 id2 m5) (IntKind.i64.wrap (i4 + 1))) else some (-1))
def F_r24_place (l1 : (List Group)) (id2 : Int) : Option Int :=
  F_r24_place_l1 l1 id2 ((((l1.length : Int) : Int) - 0).toNat + 1) 0
theorem c_r24_place (l1 : (List Group)) (id2 : Int) (r : Int) (h : F_r24_place l1 id2 = some r) : PCon Tryz.prog 313 [rd (ksl kGroup) l1, rd (kint .i64) id2] (rd (kint .i64) r) := by
  refine PCon.of (Con.intro0 Tryz.func313 rfl Tryz.ntmps313 rfl fun w H => ?_)
  unfold F_r24_place at h
  refine SR <| Ak rfl <| Nl <| AW.seq <| SR <| Ak rfl <| Nl <| AW.block <| AW.loopG (d := []) (ν := Nat × Int) (fun n => True ∧ F_r24_place_l1 l1 id2 n.1 n.2 = some r) (fun n => n.1) (fun n => [(0, rd (ksl kGroup) l1), (1, rd (kint .i64) id2), (5, rd (kint .i64) n.2)]) (fun n => []) (((((l1.length : Int) : Int) - 0).toNat + 1), 0) ⟨trivial, h⟩ ⟨rfl, ⟨rfl, rfl, rfl, trivial⟩, trivial⟩ ?_
  rintro ⟨m5, i4⟩ ⟨hsf1, h⟩
  change True at hsf1
  change F_r24_place_l1 l1 id2 m5 i4 = some r at h
  change AW _ _ _ ⟨slots [(0, rd (ksl kGroup) l1), (1, rd (kint .i64) id2), (5, rd (kint .i64) i4)], ress [], _⟩
  cases m5 with
  | zero => cases h
  | succ m5 =>
    unfold F_r24_place_l1 at h
    generalize hgo1 : F_r24_place_l1 l1 id2 m5 = go1 at h
    refine AW.seq <| SR <| Md rfl <| Md rfl <| Ac (op_len' rfl rfl sl24 (vt rfl)) rfl <| Ac (op_lss rfl rfl (vt rfl) (vt rfl)) rfl <| Nl <| Cn rfl (fun hc => ?_) (fun hc => ?_)
    · have h := cond_t hc h
      refine AW.skip <| AW.seq <| AW.block <| AW.seq ?_
      obtain ⟨e6, he6, h⟩ := bsome h
      refine Rg <| Md rfl <| Md rfl <| Ac (op_indexs' rfl rfl sl24 (vt rfl) (vt rfl) he6) rfl <| Fp lGroup_0 fl164_0 rfl <| Lp1 ty3 rfl <| Md rfl <| Ac (op_eql rfl rfl (vt rfl) (vt rfl)) rfl <| Nl <| Cn rfl (fun hc => ?_) (fun hc => ?_)
      · have h := cond_t hc h
        refine SR <| Md rfl <| As rfl <| Nl <| AW.ret ?_
        obtain rfl := si h
        exact ret1 Tryz.results313 rfl (out_tmp rfl)
      · have h := cond_f hc h
        refine AW.skip <| Rg <| Md rfl <| Ac (op_add rfl rfl (vt rfl) (vk rfl)) rfl <| As rfl <| Nl ?_
        subst hgo1
        exact ⟨(m5, (IntKind.i64.wrap (i4 + 1))), Nat.lt_succ_self _, ⟨trivial, h⟩, ⟨rfl, ⟨rfl, rfl, rfl, trivial⟩, trivial⟩⟩
    · have h := cond_f hc h
      refine AW.exit <| SR <| Ak rfl <| Nl <| AW.ret ?_
      obtain rfl := si h
      exact ret1 Tryz.results313 rfl (out_tmp rfl)
def F_r24_Find (l1 : (List Group)) (id2 : Int) : Option (Group × Bool) :=
  (F_r24_place l1 id2).bind fun x4 => (bif (decide (x4 ≥ 0)) then (lget l1 x4).bind fun e5 => some (e5, true) else some ((⟨0, 0, []⟩ : Group), false))
theorem c_r24_Find (l1 : (List Group)) (id2 : Int) (r : (Group × Bool)) (h : F_r24_Find l1 id2 = some r) : PCon Tryz.prog 276 [rd (ksl kGroup) l1, rd (kint .i64) id2] (tup2 (rd kGroup r.1) (rd kbool r.2)) := by
  refine PCon.of (Con.intro0 Tryz.func276 rfl Tryz.ntmps276 rfl fun w H => ?_)
  unfold F_r24_Find at h
  refine SR <| Ct rfl (op_alloc 5 rfl rfl zr164) ?_
  rintro _ ⟨g3, rfl⟩
  refine Ab rfl <| Nl <| AW.seq <| AW.seq ?_
  obtain ⟨x4, hx4, h⟩ := bsome h
  refine Rg <| Md rfl <| Md rfl <| Cl [7, 8] (c_r24_place _ _ _ hx4) e313 rfl <| As rfl <| Nl <| SR <| Md rfl <| Ac (op_geq rfl rfl (vt rfl) (vk rfl)) rfl <| Nl <| Cn rfl (fun hc => ?_) (fun hc => ?_)
  · have h := cond_t hc h
    refine AW.seq ?_
    obtain ⟨e5, he5, h⟩ := bsome h
    refine Rg <| Md rfl <| Md rfl <| Ac (op_indexs' rfl rfl sl24 (vt rfl) (vt rfl) he5) rfl <| Lp1 ty164 rfl <| Sto ty164 5 rfl <| Ab rfl <| Nl <| AW.ret ?_
    obtain rfl := si h
    exact ret2 Tryz.results276 rfl (out_cell rfl (i := 5) rfl ty164) (out_tmp rfl)
  · have h := cond_f hc h
    refine AW.skip <| SR <| Ac (op_build (ps := []) (x := (⟨0, 0, []⟩ : Group)) rfl rfl rfl (by kernel_rfl) zr164 rfl) rfl <| Sto ty164 5 rfl <| Ab rfl <| Nl <| AW.ret ?_
    obtain rfl := si h
    exact ret2 Tryz.results276 rfl (out_cell rfl (i := 5) rfl ty164) (out_tmp rfl)
def F_r29_Which (e1 : Env) (n2 : Int) : Option Int :=
  (bif (decide (n2 < 1)) then some 0 else (omod e1.Turn n2).bind fun q4 => (bif (decide (q4 < 0)) then some (IntKind.i64.wrap (q4 + n2)) else some q4))
theorem c_r29_Which (e1 : Env) (n2 : Int) (r : Int) (h : F_r29_Which e1 n2 = some r) : PCon Tryz.prog 314 [rd kEnv e1, rd (kint .i64) n2] (rd (kint .i64) r) := by
  refine PCon.of (Con.intro0 Tryz.func314 rfl Tryz.ntmps314 rfl fun w H => ?_)
  unfold F_r29_Which at h
  refine SR <| Ct rfl (op_box 3 rfl rfl (vt rfl)) ?_
  rintro _ ⟨g3, rfl⟩
  refine Ak rfl <| Nl <| AW.seq <| SR <| Md rfl <| Ac (op_lss rfl rfl (vt rfl) (vk rfl)) rfl <| Nl <| Cn rfl (fun hc => ?_) (fun hc => ?_)
  · have h := cond_t hc h
    refine SR <| Ak rfl <| Nl <| AW.ret ?_
    obtain rfl := si h
    exact ret1 Tryz.results314 rfl (out_tmp rfl)
  · have h := cond_f hc h
    refine AW.skip <| AW.seq ?_
    obtain ⟨q4, hq4, h⟩ := bsome h
    refine Rg <| FdA lEnv_0 fl39_0 rfl <| Ld ty3 3 rfl <| Md rfl <| Ac (op_rem rfl rfl (vt rfl) (vt rfl) hq4) rfl <| As rfl <| Nl <| AW.seq <| SR <| Md rfl <| Ac (op_lss rfl rfl (vt rfl) (vk rfl)) rfl <| Nl <| Cn rfl (fun hc => ?_) (fun hc => ?_)
    · have h := cond_t hc h
      refine Rg <| Md rfl <| Md rfl <| Ac (op_add rfl rfl (vt rfl) (vt rfl)) rfl <| As rfl <| Nl <| SR <| Md rfl <| As rfl <| Nl <| AW.ret ?_
      obtain rfl := si h
      exact ret1 Tryz.results314 rfl (out_tmp rfl)
    · have h := cond_f hc h
      refine AW.skip <| SR <| Md rfl <| As rfl <| Nl <| AW.ret ?_
      obtain rfl := si h
      exact ret1 Tryz.results314 rfl (out_tmp rfl)
def F_r29_Up_l1 (e1 : Env) (port2 : Int) : Nat → Int → Option Bool
  | 0, _ => none
  | m6 + 1, i5 => (bif (decide (i5 < (e1.Down.length : Int))) then (lget e1.Down i5).bind fun e7 => (bif (decide (e7 = port2)) then some false else (F_r29_Up_l1 e1 port2 m6) (IntKind.i64.wrap (i5 + 1))) else some true)
def F_r29_Up (e1 : Env) (port2 : Int) : Option Bool :=
  F_r29_Up_l1 e1 port2 ((((e1.Down.length : Int) : Int) - 0).toNat + 1) 0
theorem c_r29_Up (e1 : Env) (port2 : Int) (r : Bool) (h : F_r29_Up e1 port2 = some r) : PCon Tryz.prog 315 [rd kEnv e1, rd (kint .i64) port2] (rd kbool r) := by
  refine PCon.of (Con.intro0 Tryz.func315 rfl Tryz.ntmps315 rfl fun w H => ?_)
  unfold F_r29_Up at h
  refine SR <| Ct rfl (op_box 3 rfl rfl (vt rfl)) ?_
  rintro _ ⟨g3, rfl⟩
  refine Ab rfl <| Nl <| AW.seq <| SR <| Ak rfl <| Nl <| AW.block <| AW.loopG (d := []) (ν := Nat × Int) (fun n => True ∧ F_r29_Up_l1 e1 port2 n.1 n.2 = some r) (fun n => n.1) (fun n => [(1, rd (kint .i64) port2), (2, ptrL g3 (Lens.id kEnv)), (5, rd (kint .i64) n.2)]) (fun n => [(3, Blk g3 39 kEnv e1)]) (((((e1.Down.length : Int) : Int) - 0).toNat + 1), 0) ⟨trivial, h⟩ ⟨rfl, ⟨rfl, rfl, rfl, trivial⟩, ⟨rfl, trivial⟩⟩ ?_
  rintro ⟨m6, i5⟩ ⟨hsf1, h⟩
  change True at hsf1
  change F_r29_Up_l1 e1 port2 m6 i5 = some r at h
  change AW _ _ _ ⟨slots [(1, rd (kint .i64) port2), (2, ptrL g3 (Lens.id kEnv)), (5, rd (kint .i64) i5)], ress [(3, Blk g3 39 kEnv e1)], _⟩
  cases m6 with
  | zero => cases h
  | succ m6 =>
    unfold F_r29_Up_l1 at h
    generalize hgo1 : F_r29_Up_l1 e1 port2 m6 = go1 at h
    refine AW.seq <| SR <| Md rfl <| FdA lEnv_1 fl39_1 rfl <| Ld ty37 3 rfl <| Ac (op_len' rfl rfl sl37 (vt rfl)) rfl <| Ac (op_lss rfl rfl (vt rfl) (vt rfl)) rfl <| Nl <| Cn rfl (fun hc => ?_) (fun hc => ?_)
    · have h := cond_t hc h
      refine AW.skip <| AW.seq <| AW.block <| AW.seq ?_
      obtain ⟨e7, he7, h⟩ := bsome h
      refine Rg <| FdA lEnv_1 fl39_1 rfl <| Ld ty37 3 rfl <| Md rfl <| Ac (op_indexs' rfl rfl sl37 (vt rfl) (vt rfl) he7) rfl <| Lp1 ty3 rfl <| Md rfl <| Ac (op_eql rfl rfl (vt rfl) (vt rfl)) rfl <| Nl <| Cn rfl (fun hc => ?_) (fun hc => ?_)
      · have h := cond_t hc h
        refine SR <| Ab rfl <| Nl <| AW.ret ?_
        obtain rfl := si h
        exact ret1 Tryz.results315 rfl (out_tmp rfl)
      · have h := cond_f hc h
        refine AW.skip <| Rg <| Md rfl <| Ac (op_add rfl rfl (vt rfl) (vk rfl)) rfl <| As rfl <| Nl ?_
        subst hgo1
        exact ⟨(m6, (IntKind.i64.wrap (i5 + 1))), Nat.lt_succ_self _, ⟨trivial, h⟩, ⟨rfl, ⟨rfl, rfl, rfl, trivial⟩, ⟨rfl, trivial⟩⟩⟩
    · have h := cond_f hc h
      refine AW.exit <| SR <| Ab rfl <| Nl <| AW.ret ?_
      obtain rfl := si h
      exact ret1 Tryz.results315 rfl (out_tmp rfl)
def F_r29_Takes_l1 (g2 : Group) (e1 : Env) : Nat → (List Int) → Int → Option (List Int)
  | 0, _, _ => none
  | m12 + 1, l9, i11 => (bif (decide (i11 < (g2.Buckets.length : Int))) then (bif (decide (g2.Kind = 0)) then (appd l9 [i11]).bind fun l13 => (F_r29_Takes_l1 g2 e1 m12) l13 (IntKind.i64.wrap (i11 + 1)) else (bif (decide (g2.Kind = 1)) then (F_r29_Which e1 (g2.Buckets.length : Int)).bind fun x15 => (bif (decide (i11 = x15)) then (appd l9 [i11]).bind fun l16 => (F_r29_Takes_l1 g2 e1 m12) l16 (IntKind.i64.wrap (i11 + 1)) else (F_r29_Takes_l1 g2 e1 m12) l9 (IntKind.i64.wrap (i11 + 1))) else (bif (decide (g2.Kind = 2)) then (bif (decide (i11 = 0)) then (appd l9 [i11]).bind fun l18 => (F_r29_Takes_l1 g2 e1 m12) l18 (IntKind.i64.wrap (i11 + 1)) else (F_r29_Takes_l1 g2 e1 m12) l9 (IntKind.i64.wrap (i11 + 1))) else (bif (decide (g2.Kind = 3)) then (opt (decide ((l9.length : Int) = 0)) (lget g2.Buckets i11)).bind fun e20 => (opt (decide ((l9.length : Int) = 0)) (F_r29_Up e1 e20.Watch)).bind fun x21 => (bif ((decide ((l9.length : Int) = 0)) && x21) then (appd l9 [i11]).bind fun l22 => (F_r29_Takes_l1 g2 e1 m12) l22 (IntKind.i64.wrap (i11 + 1)) else (F_r29_Takes_l1 g2 e1 m12) l9 (IntKind.i64.wrap (i11 + 1))) else (F_r29_Takes_l1 g2 e1 m12) l9 (IntKind.i64.wrap (i11 + 1)))))) else some l9)
def F_r29_Takes (e1 : Env) (g2 : Group) : Option (List Int) :=
  F_r29_Takes_l1 g2 e1 ((((g2.Buckets.length : Int) : Int) - 0).toNat + 1) [] 0
theorem c_r29_Takes (e1 : Env) (g2 : Group) (r : (List Int)) (h : F_r29_Takes e1 g2 = some r) : PCon Tryz.prog 277 [rd kEnv e1, rd kGroup g2] (rd (ksl (kint .i64)) r) := by
  refine PCon.of (Con.intro0 Tryz.func277 rfl Tryz.ntmps277 rfl fun w H => ?_)
  unfold F_r29_Takes at h
  refine SR <| Ct rfl (op_box 3 rfl rfl (vt rfl)) ?_
  rintro _ ⟨g3, rfl⟩
  refine Ct rfl (op_box 4 rfl rfl (vt rfl)) ?_
  rintro _ ⟨g4, rfl⟩
  refine Ac (op_assign (A := rd (ksl (kint .i64)) []) rfl rfl vnil) rfl <| Nl <| SR <| Ct rfl (op_buildSlice 1001 (ps := []) (l := []) rfl rfl sl37 zr3 rfl rfl rfl rfl) ?_
  rintro _ ⟨v5, rfl⟩
  refine Aw rfl <| Nl <| AW.seq <| SR <| Ak rfl <| Nl <| AW.block <| AW.loopG (d := []) (ν := Nat × (List Int) × Int × Value) (fun n => True ∧ F_r29_Takes_l1 g2 e1 n.1 n.2.1 n.2.2.1 = some r) (fun n => n.1) (fun n => [(2, ptrL g3 (Lens.id kEnv)), (3, ptrL g4 (Lens.id kGroup)), (5, raw n.2.2.2), (6, rd (kint .i64) n.2.2.1)]) (fun n => [(3, Blk g3 39 kEnv e1), (4, Blk g4 164 kGroup g2), (1001, Row n.2.2.2 3 (kint .i64) n.2.1)]) (((((g2.Buckets.length : Int) : Int) - 0).toNat + 1), [], 0, v5) ⟨trivial, h⟩ ⟨rfl, ⟨rfl, rfl, rfl, rfl, trivial⟩, ⟨rfl, rfl, rfl, trivial⟩⟩ ?_
  rintro ⟨m12, l9, i11, v10⟩ ⟨hsf1, h⟩
  change True at hsf1
  change F_r29_Takes_l1 g2 e1 m12 l9 i11 = some r at h
  change AW _ _ _ ⟨slots [(2, ptrL g3 (Lens.id kEnv)), (3, ptrL g4 (Lens.id kGroup)), (5, raw v10), (6, rd (kint .i64) i11)], ress [(3, Blk g3 39 kEnv e1), (4, Blk g4 164 kGroup g2), (1001, Row v10 3 (kint .i64) l9)], _⟩
  cases m12 with
  | zero => cases h
  | succ m12 =>
    unfold F_r29_Takes_l1 at h
    generalize hgo1 : F_r29_Takes_l1 g2 e1 m12 = go1 at h
    refine AW.seq <| SR <| Md rfl <| FdA lGroup_2 fl164_2 rfl <| Ld ty162 4 rfl <| Ac (op_len' rfl rfl sl162 (vt rfl)) rfl <| Ac (op_lss rfl rfl (vt rfl) (vt rfl)) rfl <| Nl <| Cn rfl (fun hc => ?_) (fun hc => ?_)
    · have h := cond_t hc h
      refine AW.skip <| AW.seq <| AW.block <| SR <| FdA lGroup_1 fl164_1 rfl <| Ld ty3 4 rfl <| Nl <| AW.block <| SR <| Ac (op_eql rfl rfl (vt rfl) (vk rfl)) rfl <| As rfl <| Nl <| Cn rfl (fun hc => ?_) (fun hc => ?_)
      · have h := cond_t hc h
        obtain ⟨l13, hl13, h⟩ := bsome h
        refine Rg <| Mw rfl <| Md rfl <| Ac (op_buildSliceR (ps := [(0, .tmp 20)]) (l := [i11]) rfl rfl sl37 zr3 rfl rfl ⟨_, _, Lens.idx 1 (kint .i64) 0 (by decide), _, rfl, (vt rfl), rfl⟩ rfl) rfl <| Ct rfl (op_append' 1001 hl13 rfl rfl el37 (vt rfl) rfl (vt rfl)) ?_
        rintro _ ⟨v14, rfl⟩
        refine Aw rfl <| Nl <| Rg <| Md rfl <| Ac (op_add rfl rfl (vt rfl) (vk rfl)) rfl <| As rfl <| Nl ?_
        subst hgo1
        exact ⟨(m12, l13, (IntKind.i64.wrap (i11 + 1)), v14), Nat.lt_succ_self _, ⟨trivial, h⟩, ⟨rfl, ⟨rfl, rfl, rfl, rfl, trivial⟩, ⟨rfl, rfl, rfl, trivial⟩⟩⟩
      · have h := cond_f hc h
        refine SR <| Ac (op_eql rfl rfl (vt rfl) (vk rfl)) rfl <| As rfl <| Nl <| Cn rfl (fun hc => ?_) (fun hc => ?_)
        · have h := cond_t hc h
          refine AW.seq ?_
          obtain ⟨x15, hx15, h⟩ := bsome h
          refine Rg <| Md rfl <| Ld ty39 3 rfl <| FdA lGroup_2 fl164_2 rfl <| Ld ty162 4 rfl <| Ac (op_len' rfl rfl sl162 (vt rfl)) rfl <| Cl [26, 29] (c_r29_Which _ _ _ hx15) e314 rfl <| Ac (op_eql rfl rfl (vt rfl) (vt rfl)) rfl <| Nl <| Cn rfl (fun hc => ?_) (fun hc => ?_)
          · have h := cond_t hc h
            obtain ⟨l16, hl16, h⟩ := bsome h
            refine Rg <| Mw rfl <| Md rfl <| Ac (op_buildSliceR (ps := [(0, .tmp 33)]) (l := [i11]) rfl rfl sl37 zr3 rfl rfl ⟨_, _, Lens.idx 1 (kint .i64) 0 (by decide), _, rfl, (vt rfl), rfl⟩ rfl) rfl <| Ct rfl (op_append' 1001 hl16 rfl rfl el37 (vt rfl) rfl (vt rfl)) ?_
            rintro _ ⟨v17, rfl⟩
            refine Aw rfl <| Nl <| Rg <| Md rfl <| Ac (op_add rfl rfl (vt rfl) (vk rfl)) rfl <| As rfl <| Nl ?_
            subst hgo1
            exact ⟨(m12, l16, (IntKind.i64.wrap (i11 + 1)), v17), Nat.lt_succ_self _, ⟨trivial, h⟩, ⟨rfl, ⟨rfl, rfl, rfl, rfl, trivial⟩, ⟨rfl, rfl, rfl, trivial⟩⟩⟩
          · have h := cond_f hc h
            refine AW.skip <| Rg <| Md rfl <| Ac (op_add rfl rfl (vt rfl) (vk rfl)) rfl <| As rfl <| Nl ?_
            subst hgo1
            exact ⟨(m12, l9, (IntKind.i64.wrap (i11 + 1)), v10), Nat.lt_succ_self _, ⟨trivial, h⟩, ⟨rfl, ⟨rfl, rfl, rfl, rfl, trivial⟩, ⟨rfl, rfl, rfl, trivial⟩⟩⟩
        · have h := cond_f hc h
          refine SR <| Ac (op_eql rfl rfl (vt rfl) (vk rfl)) rfl <| As rfl <| Nl <| Cn rfl (fun hc => ?_) (fun hc => ?_)
          · have h := cond_t hc h
            refine SR <| Md rfl <| Ac (op_eql rfl rfl (vt rfl) (vk rfl)) rfl <| Nl <| Cn rfl (fun hc => ?_) (fun hc => ?_)
            · have h := cond_t hc h
              obtain ⟨l18, hl18, h⟩ := bsome h
              refine Rg <| Mw rfl <| Md rfl <| Ac (op_buildSliceR (ps := [(0, .tmp 41)]) (l := [i11]) rfl rfl sl37 zr3 rfl rfl ⟨_, _, Lens.idx 1 (kint .i64) 0 (by decide), _, rfl, (vt rfl), rfl⟩ rfl) rfl <| Ct rfl (op_append' 1001 hl18 rfl rfl el37 (vt rfl) rfl (vt rfl)) ?_
              rintro _ ⟨v19, rfl⟩
              refine Aw rfl <| Nl <| Rg <| Md rfl <| Ac (op_add rfl rfl (vt rfl) (vk rfl)) rfl <| As rfl <| Nl ?_
              subst hgo1
              exact ⟨(m12, l18, (IntKind.i64.wrap (i11 + 1)), v19), Nat.lt_succ_self _, ⟨trivial, h⟩, ⟨rfl, ⟨rfl, rfl, rfl, rfl, trivial⟩, ⟨rfl, rfl, rfl, trivial⟩⟩⟩
            · have h := cond_f hc h
              refine AW.skip <| Rg <| Md rfl <| Ac (op_add rfl rfl (vt rfl) (vk rfl)) rfl <| As rfl <| Nl ?_
              subst hgo1
              exact ⟨(m12, l9, (IntKind.i64.wrap (i11 + 1)), v10), Nat.lt_succ_self _, ⟨trivial, h⟩, ⟨rfl, ⟨rfl, rfl, rfl, rfl, trivial⟩, ⟨rfl, rfl, rfl, trivial⟩⟩⟩
          · have h := cond_f hc h
            refine SR <| Ac (op_eql rfl rfl (vt rfl) (vk rfl)) rfl <| As rfl <| Nl <| Cn rfl (fun hc => ?_) (fun hc => ?_)
            · have h := cond_t hc h
              refine AW.seq ?_
              obtain ⟨e20, he20, h⟩ := bsome h
              obtain ⟨x21, hx21, h⟩ := bsome h
              refine AW.regionAny [⟨[5], [46], [], []⟩, ⟨[46], [47], [1001], []⟩, ⟨[47], [48], [], []⟩, ⟨[48], [49], [], []⟩, ⟨[2, 49], [50], [3], []⟩, ⟨[3, 49], [51], [], []⟩, ⟨[51, 49], [52], [4], []⟩, ⟨[6, 49], [53], [], []⟩, ⟨[52, 53, 49], [54], [], []⟩, ⟨[54, 49], [55], [], []⟩, ⟨[55, 49], [56], [], []⟩, ⟨[50, 56, 49], [57], [], []⟩, ⟨[57, 49], [58], [], []⟩] mixed (by kernel_rfl) <| SMw rfl <| Sc (lo [46] [1001] rfl fun S hs hr => op_leno 1001 rfl rfl sl37 (vh hs 46 rfl rfl) ((hr 1001 rfl).trans rfl)) rfl <| Sc (lo [47] [] rfl fun S hs hr => op_eql rfl rfl (vh hs 47 rfl rfl) (vk rfl)) rfl <| SMd rfl <| Sc (lg [2, 49] [3] rfl fun hq S hs hr => op_load rfl rfl ty39 (vh hs 2 rfl rfl) (i := 3) ((hr 3 rfl).trans rfl)) rfl <| Sc (lg [3, 49] [] rfl fun hq S hs hr => op_field lGroup_2 rfl rfl fl164_2 (vh hs 3 rfl rfl)) rfl <| Sc (lg [51, 49] [4] rfl fun hq S hs hr => op_load rfl rfl ty162 (vgt ((hs 51 rfl).trans rfl) hq) (i := 4) ((hr 4 rfl).trans rfl)) rfl <| Sc (lg [6, 49] [] rfl fun hq S hs hr => op_move (A := rd (kint .i64) i11) rfl rfl (vh hs 6 rfl rfl)) rfl <| Sc (lg [52, 53, 49] [] rfl fun hq S hs hr => op_indexs' rfl rfl sl162 (vgt ((hs 52 rfl).trans rfl) hq) (vgt ((hs 53 rfl).trans rfl) hq) (opt_t he20 hq)) rfl <| Sc (lg [54, 49] [] rfl fun hq S hs hr => op_fieldp lBucket_1 rfl rfl fl226_1 (vgt ((hs 54 rfl).trans rfl) hq)) rfl <| Sc (lg [55, 49] [] rfl fun hq S hs hr => op_loadp rfl rfl ty3 (vgt ((hs 55 rfl).trans rfl) hq)) rfl <| Sc (lg [50, 56, 49] [] rfl fun hq S hs hr => op_call (xs := [.tmp 50, .tmp 56]) (c_r29_Up _ _ _ (opt_t hx21 hq)) e315 rfl rfl ⟨vgt ((hs 50 rfl).trans rfl) hq, vgt ((hs 56 rfl).trans rfl) hq, trivial⟩) rfl <| Sc (lo [57, 49] [] rfl fun S hs hr => op_all rfl rfl (vh hs 49 rfl rfl) (vh hs 57 rfl rfl)) rfl <| Cn rfl (fun hc => ?_) (fun hc => ?_)
              · have h := cond_t hc h
                obtain ⟨l22, hl22, h⟩ := bsome h
                refine Rg <| Mw rfl <| Md rfl <| Ac (op_buildSliceR (ps := [(0, .tmp 60)]) (l := [i11]) rfl rfl sl37 zr3 rfl rfl ⟨_, _, Lens.idx 1 (kint .i64) 0 (by decide), _, rfl, (vt rfl), rfl⟩ rfl) rfl <| Ct rfl (op_append' 1001 hl22 rfl rfl el37 (vt rfl) rfl (vt rfl)) ?_
                rintro _ ⟨v23, rfl⟩
                refine Aw rfl <| Nl <| Rg <| Md rfl <| Ac (op_add rfl rfl (vt rfl) (vk rfl)) rfl <| As rfl <| Nl ?_
                subst hgo1
                exact ⟨(m12, l22, (IntKind.i64.wrap (i11 + 1)), v23), Nat.lt_succ_self _, ⟨trivial, h⟩, ⟨rfl, ⟨rfl, rfl, rfl, rfl, trivial⟩, ⟨rfl, rfl, rfl, trivial⟩⟩⟩
              · have h := cond_f hc h
                refine AW.skip <| Rg <| Md rfl <| Ac (op_add rfl rfl (vt rfl) (vk rfl)) rfl <| As rfl <| Nl ?_
                subst hgo1
                exact ⟨(m12, l9, (IntKind.i64.wrap (i11 + 1)), v10), Nat.lt_succ_self _, ⟨trivial, h⟩, ⟨rfl, ⟨rfl, rfl, rfl, rfl, trivial⟩, ⟨rfl, rfl, rfl, trivial⟩⟩⟩
            · have h := cond_f hc h
              refine AW.skip <| Rg <| Md rfl <| Ac (op_add rfl rfl (vt rfl) (vk rfl)) rfl <| As rfl <| Nl ?_
              subst hgo1
              exact ⟨(m12, l9, (IntKind.i64.wrap (i11 + 1)), v10), Nat.lt_succ_self _, ⟨trivial, h⟩, ⟨rfl, ⟨rfl, rfl, rfl, rfl, trivial⟩, ⟨rfl, rfl, rfl, trivial⟩⟩⟩
    · have h := cond_f hc h
      refine AW.exit <| SR <| Mw rfl <| Aw rfl <| Nl <| AW.freezes [4, 5, 63] 1001 rfl ⟨rfl, rfl, rfl, trivial⟩ rfl <| AW.ret ?_
      obtain rfl := si h
      exact ret1 Tryz.results277 rfl (out_tmp rfl)
def F_r28_like (a1 : Action) (b2 : Action) : Option Bool :=
  some ((decide (a1.Kind = b2.Kind)) && ((decide (a1.Kind ≠ 25)) || (decide (a1.Oxm.Field = b2.Oxm.Field))))
theorem c_r28_like (a1 : Action) (b2 : Action) (r : Bool) (h : F_r28_like a1 b2 = some r) : PCon Tryz.prog 224 [rd kAction a1, rd kAction b2] (rd kbool r) := by
  refine PCon.of (Con.intro0 Tryz.func224 rfl Tryz.ntmps224 rfl fun w H => ?_)
  unfold F_r28_like at h
  refine SR <| Ct rfl (op_box 3 rfl rfl (vt rfl)) ?_
  rintro _ ⟨g3, rfl⟩
  refine Ct rfl (op_box 4 rfl rfl (vt rfl)) ?_
  rintro _ ⟨g4, rfl⟩
  refine Ab rfl <| Nl <| SR <| FdA lAction_0 fl121_0 rfl <| Ld ty3 3 rfl <| FdA lAction_0 fl121_0 rfl <| Ld ty3 4 rfl <| Ac (op_eql rfl rfl (vt rfl) (vt rfl)) rfl <| Md rfl <| Gd rfl (fun hq => op_field lAction_0 rfl rfl fl121_0 (vt rfl)) <| Gd rfl (fun hq => op_load rfl rfl ty3 (vgt rfl hq) (i := 3) rfl) <| Gd rfl (fun hq => op_neq rfl rfl (vgt rfl hq) (vk rfl)) <| AOps.consG (OpG.guardX rfl rfl rfl rfl rfl fun hq => op_move (A := rd kbool (decide (a1.Kind ≠ 25))) rfl rfl (vgt rfl hq)) <| AOps.consG (OpG.guardN rfl rfl rfl rfl rfl fun hq => op_field lAction_5 rfl rfl fl121_5 (vt rfl)) <| AOps.consG (OpG.guardN rfl rfl rfl rfl rfl fun hq => op_field lOxm_0 rfl rfl fl119_0 (vgt rfl hq)) <| AOps.consG (OpG.guardN rfl rfl rfl rfl rfl fun hq => op_load rfl rfl ty3 (vgt rfl hq) (i := 3) rfl) <| AOps.consG (OpG.guardN rfl rfl rfl rfl rfl fun hq => op_field lAction_5 rfl rfl fl121_5 (vt rfl)) <| AOps.consG (OpG.guardN rfl rfl rfl rfl rfl fun hq => op_field lOxm_0 rfl rfl fl119_0 (vgt rfl hq)) <| AOps.consG (OpG.guardN rfl rfl rfl rfl rfl fun hq => op_load rfl rfl ty3 (vgt rfl hq) (i := 4) rfl) <| AOps.consG (OpG.guardN rfl rfl rfl rfl rfl fun hq => op_eql rfl rfl (vgt rfl hq) (vgt rfl hq)) <| Gd rfl (fun hq => op_any rfl rfl (vgx rfl hq) (vgw rfl hq)) <| Ac (op_all rfl rfl (vt rfl) (vt rfl)) rfl <| As rfl <| Nl <| AW.ret ?_
  obtain rfl := si h
  exact ret1 Tryz.results224 rfl (out_tmp rfl)
def F_r28_Write_l2 (l9 : (List Action)) (l2 : (List Action)) (i11 : Int) (go1 : (List Action) → Int → Option (List Action)) : Nat → Int → Int → Option (List Action)
  | 0, _, _ => none
  | m17 + 1, at15, j16 => (bif (decide (j16 < (l9.length : Int))) then (opt (decide (at15 < 0)) (lget l9 j16)).bind fun e18 => (opt (decide (at15 < 0)) (lget l2 i11)).bind fun e19 => (opt (decide (at15 < 0)) (F_r28_like e18 e19)).bind fun x20 => (bif ((decide (at15 < 0)) && x20) then (F_r28_Write_l2 l9 l2 i11 go1 m17) j16 (IntKind.i64.wrap (j16 + 1)) else (F_r28_Write_l2 l9 l2 i11 go1 m17) at15 (IntKind.i64.wrap (j16 + 1))) else (bif (decide (at15 < 0)) then (lget l2 i11).bind fun e21 => (appd l9 [e21]).bind fun l22 => go1 l22 (IntKind.i64.wrap (i11 + 1)) else (lget l2 i11).bind fun e24 => (lget l9 at15).bind fun e25 => go1 (List.set l9 at15.toNat e24) (IntKind.i64.wrap (i11 + 1))))
def F_r28_Write_l1 (l2 : (List Action)) : Nat → (List Action) → Int → Option (List Action)
  | 0, _, _ => none
  | m12 + 1, l9, i11 => (bif (decide (i11 < (l2.length : Int))) then F_r28_Write_l2 l9 l2 i11 (F_r28_Write_l1 l2 m12) ((((l9.length : Int) : Int) - 0).toNat + 1) (-1) 0 else some l9)
def F_r28_Write (set1 : (List Action)) (l2 : (List Action)) : Option (List Action) :=
  (appd [] set1).bind fun l4 => F_r28_Write_l1 l2 ((((l2.length : Int) : Int) - 0).toNat + 1) l4 0
theorem c_r28_Write (set1 : (List Action)) (l2 : (List Action)) (r : (List Action)) (h : F_r28_Write set1 l2 = some r) : PCon Tryz.prog 153 [rd (ksl kAction) set1, rd (ksl kAction) l2] (rd (ksl kAction) r) := by
  refine PCon.of (Con.intro0 Tryz.func153 rfl Tryz.ntmps153 rfl fun w H => ?_)
  unfold F_r28_Write at h
  refine SR <| Ac (op_assign (A := rd (ksl kAction) []) rfl rfl vnil) rfl <| Nl <| AW.seq ?_
  obtain ⟨l4, hl4, h⟩ := bsome h
  refine Rg <| Ct rfl (op_buildSlice 1001 (ps := []) (l := []) rfl rfl sl122 zr121 rfl rfl rfl rfl) ?_
  rintro _ ⟨v3, rfl⟩
  refine Md rfl <| Ct rfl (op_append' 1001 hl4 rfl rfl el122 (vt rfl) rfl (vt rfl)) ?_
  rintro _ ⟨v5, rfl⟩
  refine Aw rfl <| Nl <| AW.seq <| SR <| Ak rfl <| Nl <| AW.block <| AW.loopG (d := []) (ν := Nat × (List Action) × Int × Value) (fun n => True ∧ F_r28_Write_l1 l2 n.1 n.2.1 n.2.2.1 = some r) (fun n => n.1) (fun n => [(1, rd (ksl kAction) l2), (5, raw n.2.2.2), (6, rd (kint .i64) n.2.2.1)]) (fun n => [(1001, Row n.2.2.2 121 kAction n.2.1)]) (((((l2.length : Int) : Int) - 0).toNat + 1), l4, 0, v5) ⟨trivial, h⟩ ⟨rfl, ⟨rfl, rfl, rfl, trivial⟩, ⟨rfl, trivial⟩⟩ ?_
  rintro ⟨m12, l9, i11, v10⟩ ⟨hsf1, h⟩
  change True at hsf1
  change F_r28_Write_l1 l2 m12 l9 i11 = some r at h
  change AW _ _ _ ⟨slots [(1, rd (ksl kAction) l2), (5, raw v10), (6, rd (kint .i64) i11)], ress [(1001, Row v10 121 kAction l9)], _⟩
  cases m12 with
  | zero => cases h
  | succ m12 =>
    unfold F_r28_Write_l1 at h
    generalize hgo1 : F_r28_Write_l1 l2 m12 = go1 at h
    refine AW.seq <| SR <| Md rfl <| Md rfl <| Ac (op_len' rfl rfl sl122 (vt rfl)) rfl <| Ac (op_lss rfl rfl (vt rfl) (vt rfl)) rfl <| Nl <| Cn rfl (fun hc => ?_) (fun hc => ?_)
    · have h := cond_t hc h
      refine AW.skip <| AW.seq <| AW.block <| SR <| Ak rfl <| Nl <| AW.seq <| SR <| Ak rfl <| Nl <| AW.block <| AW.loopG (d := []) (ν := Nat × Int × Int) (fun n => True ∧ F_r28_Write_l2 l9 l2 i11 go1 n.1 n.2.1 n.2.2 = some r) (fun n => n.1) (fun n => [(1, rd (ksl kAction) l2), (5, raw v10), (6, rd (kint .i64) i11), (7, rd (kint .i64) n.2.1), (8, rd (kint .i64) n.2.2)]) (fun n => [(1001, Row v10 121 kAction l9)]) (((((l9.length : Int) : Int) - 0).toNat + 1), (-1), 0) ⟨trivial, h⟩ ⟨rfl, ⟨rfl, rfl, rfl, rfl, rfl, trivial⟩, ⟨rfl, trivial⟩⟩ ?_
      rintro ⟨m17, at15, j16⟩ ⟨hsf2, h⟩
      change True at hsf2
      change F_r28_Write_l2 l9 l2 i11 go1 m17 at15 j16 = some r at h
      change AW _ _ _ ⟨slots [(1, rd (ksl kAction) l2), (5, raw v10), (6, rd (kint .i64) i11), (7, rd (kint .i64) at15), (8, rd (kint .i64) j16)], ress [(1001, Row v10 121 kAction l9)], _⟩
      cases m17 with
      | zero => cases h
      | succ m17 =>
        unfold F_r28_Write_l2 at h
        generalize hgo2 : F_r28_Write_l2 l9 l2 i11 go1 m17 = go2 at h
        refine AW.seq <| SR <| Md rfl <| Mw rfl <| Ac (op_leno 1001 rfl rfl sl122 (vt rfl) rfl) rfl <| Ac (op_lss rfl rfl (vt rfl) (vt rfl)) rfl <| Nl <| Cn rfl (fun hc => ?_) (fun hc => ?_)
        · have h := cond_t hc h
          refine AW.skip <| AW.seq <| AW.block <| AW.seq ?_
          obtain ⟨e18, he18, h⟩ := bsome h
          obtain ⟨e19, he19, h⟩ := bsome h
          obtain ⟨x20, hx20, h⟩ := bsome h
          refine AW.regionAny [⟨[7], [24], [], []⟩, ⟨[24], [25], [], []⟩, ⟨[25], [26], [], []⟩, ⟨[5, 26], [27], [], []⟩, ⟨[8, 26], [28], [], []⟩, ⟨[27, 28, 26], [29], [1001], []⟩, ⟨[29, 26], [30], [1001], []⟩, ⟨[1, 26], [31], [], []⟩, ⟨[6, 26], [32], [], []⟩, ⟨[31, 32, 26], [33], [], []⟩, ⟨[33, 26], [34], [], []⟩, ⟨[30, 34, 26], [35], [], []⟩, ⟨[35, 26], [36], [], []⟩] mixed (by kernel_rfl) <| SMd rfl <| Sc (lo [24] [] rfl fun S hs hr => op_lss rfl rfl (vh hs 24 rfl rfl) (vk rfl)) rfl <| SMd rfl <| Sc (lg [5, 26] [] rfl fun hq S hs hr => op_move (A := raw v10) rfl rfl (vh hs 5 rfl rfl)) rfl <| Sc (lg [8, 26] [] rfl fun hq S hs hr => op_move (A := rd (kint .i64) j16) rfl rfl (vh hs 8 rfl rfl)) rfl <| Sc (lg [27, 28, 26] [1001] rfl fun hq S hs hr => op_indexo' 1001 rfl rfl sl122 (vgt ((hs 27 rfl).trans rfl) hq) ((hr 1001 rfl).trans rfl) (vgt ((hs 28 rfl).trans rfl) hq) (opt_t he18 hq)) rfl <| Sc (lg [29, 26] [1001] rfl fun hq S hs hr => op_loado' 1001 rfl rfl ty121 (vgt ((hs 29 rfl).trans rfl) hq) ((hr 1001 rfl).trans rfl) (lget_of (opt_t he18 hq)).2) rfl <| Sc (lg [1, 26] [] rfl fun hq S hs hr => op_move (A := rd (ksl kAction) l2) rfl rfl (vh hs 1 rfl rfl)) rfl <| Sc (lg [6, 26] [] rfl fun hq S hs hr => op_move (A := rd (kint .i64) i11) rfl rfl (vh hs 6 rfl rfl)) rfl <| Sc (lg [31, 32, 26] [] rfl fun hq S hs hr => op_indexs' rfl rfl sl122 (vgt ((hs 31 rfl).trans rfl) hq) (vgt ((hs 32 rfl).trans rfl) hq) (opt_t he19 hq)) rfl <| Sc (lg [33, 26] [] rfl fun hq S hs hr => op_loadp rfl rfl ty121 (vgt ((hs 33 rfl).trans rfl) hq)) rfl <| Sc (lg [30, 34, 26] [] rfl fun hq S hs hr => op_call (xs := [.tmp 30, .tmp 34]) (c_r28_like _ _ _ (opt_t hx20 hq)) e224 rfl rfl ⟨vgt ((hs 30 rfl).trans rfl) hq, vgt ((hs 34 rfl).trans rfl) hq, trivial⟩) rfl <| Sc (lo [35, 26] [] rfl fun S hs hr => op_all rfl rfl (vh hs 26 rfl rfl) (vh hs 35 rfl rfl)) rfl <| Cn rfl (fun hc => ?_) (fun hc => ?_)
          · have h := cond_t hc h
            refine Rg <| Md rfl <| As rfl <| Nl <| Rg <| Md rfl <| Ac (op_add rfl rfl (vt rfl) (vk rfl)) rfl <| As rfl <| Nl ?_
            subst hgo2
            exact ⟨(m17, j16, (IntKind.i64.wrap (j16 + 1))), Nat.lt_succ_self _, ⟨trivial, h⟩, ⟨rfl, ⟨rfl, rfl, rfl, rfl, rfl, trivial⟩, ⟨rfl, trivial⟩⟩⟩
          · have h := cond_f hc h
            refine AW.skip <| Rg <| Md rfl <| Ac (op_add rfl rfl (vt rfl) (vk rfl)) rfl <| As rfl <| Nl ?_
            subst hgo2
            exact ⟨(m17, at15, (IntKind.i64.wrap (j16 + 1))), Nat.lt_succ_self _, ⟨trivial, h⟩, ⟨rfl, ⟨rfl, rfl, rfl, rfl, rfl, trivial⟩, ⟨rfl, trivial⟩⟩⟩
        · have h := cond_f hc h
          refine AW.exit <| SR <| Md rfl <| Ac (op_lss rfl rfl (vt rfl) (vk rfl)) rfl <| Nl <| Cn rfl (fun hc => ?_) (fun hc => ?_)
          · have h := cond_t hc h
            obtain ⟨e21, he21, h⟩ := bsome h
            obtain ⟨l22, hl22, h⟩ := bsome h
            refine Rg <| Mw rfl <| Md rfl <| Md rfl <| Ac (op_indexs' rfl rfl sl122 (vt rfl) (vt rfl) he21) rfl <| Lp1 ty121 rfl <| Ac (op_buildSliceR (ps := [(0, .tmp 44)]) (l := [e21]) rfl rfl sl122 zr121 rfl rfl ⟨_, _, Lens.idx 1 kAction 0 (by decide), _, rfl, (vt rfl), rfl⟩ rfl) rfl <| Ct rfl (op_append' 1001 hl22 rfl rfl el122 (vt rfl) rfl (vt rfl)) ?_
            rintro _ ⟨v23, rfl⟩
            refine Aw rfl <| Nl <| Rg <| Md rfl <| Ac (op_add rfl rfl (vt rfl) (vk rfl)) rfl <| As rfl <| Nl ?_
            subst hgo1
            exact ⟨(m12, l22, (IntKind.i64.wrap (i11 + 1)), v23), Nat.lt_succ_self _, ⟨trivial, h⟩, ⟨rfl, ⟨rfl, rfl, rfl, trivial⟩, ⟨rfl, trivial⟩⟩⟩
          · have h := cond_f hc h
            obtain ⟨e24, he24, h⟩ := bsome h
            obtain ⟨e25, he25, h⟩ := bsome h
            refine Rg <| Mw rfl <| Md rfl <| Md rfl <| Md rfl <| Ac (op_indexs' rfl rfl sl122 (vt rfl) (vt rfl) he24) rfl <| Lp1 ty121 rfl <| Ac (op_indexo' 1001 rfl rfl sl122 (vt rfl) rfl (vt rfl) he25) rfl <| Ac (op_storeo' 1001 rfl rfl ty121 (vt rfl) rfl (lget_of he25).2 (vt rfl)) rfl <| Nl <| Rg <| Md rfl <| Ac (op_add rfl rfl (vt rfl) (vk rfl)) rfl <| As rfl <| Nl ?_
            subst hgo1
            exact ⟨(m12, (List.set l9 at15.toNat e24), (IntKind.i64.wrap (i11 + 1)), v10), Nat.lt_succ_self _, ⟨trivial, h⟩, ⟨rfl, ⟨rfl, rfl, rfl, trivial⟩, ⟨rfl, trivial⟩⟩⟩
    · have h := cond_f hc h
      refine AW.exit <| SR <| Mw rfl <| Aw rfl <| Nl <| AW.freezes [4, 5, 54] 1001 rfl ⟨rfl, rfl, rfl, trivial⟩ rfl <| AW.ret ?_
      obtain rfl := si h
      exact ret1 Tryz.results153 rfl (out_tmp rfl)
def F_r28_of_l1 (l1 : (List Action)) (kind2 : Int) : Nat → (List Action) → Int → Option (List Action)
  | 0, _, _ => none
  | m10 + 1, l7, i9 => (bif (decide (i9 < (l1.length : Int))) then (lget l1 i9).bind fun e11 => (bif (decide (e11.Kind = kind2)) then (lget l1 i9).bind fun e12 => (appd l7 [e12]).bind fun l13 => (F_r28_of_l1 l1 kind2 m10) l13 (IntKind.i64.wrap (i9 + 1)) else (F_r28_of_l1 l1 kind2 m10) l7 (IntKind.i64.wrap (i9 + 1))) else some l7)
def F_r28_of (l1 : (List Action)) (kind2 : Int) : Option (List Action) :=
  F_r28_of_l1 l1 kind2 ((((l1.length : Int) : Int) - 0).toNat + 1) [] 0
theorem c_r28_of_o (l1 : (List Action)) (kind2 : Int) (r : (List Action)) (h : F_r28_of l1 kind2 = some r) : Con Tryz.prog 227 [rd (ksl kAction) l1, rd (kint .i64) kind2] emp (fun v => raw v) (fun v => Row v 121 kAction r) := by
  refine Con.intro0 Tryz.func227 rfl Tryz.ntmps227 rfl fun w H => ?_
  unfold F_r28_of at h
  refine AW.seq <| AW.newnil 1001 121 kAction <| Rg <| Ac (op_assign rfl rfl vc) rfl <| Nl <| SR <| Ct rfl (op_buildSlice 1002 (ps := []) (l := []) rfl rfl sl122 zr121 rfl rfl rfl rfl) ?_
  rintro _ ⟨v3, rfl⟩
  refine Aw rfl <| Nl <| AW.seq <| SR <| Ak rfl <| Nl <| AW.block <| AW.loopG (d := []) (ν := Nat × (List Action) × Int × Value) (fun n => True ∧ F_r28_of_l1 l1 kind2 n.1 n.2.1 n.2.2.1 = some r) (fun n => n.1) (fun n => [(0, rd (ksl kAction) l1), (1, rd (kint .i64) kind2), (5, raw n.2.2.2), (6, rd (kint .i64) n.2.2.1)]) (fun n => [(1002, Row n.2.2.2 121 kAction n.2.1)]) (((((l1.length : Int) : Int) - 0).toNat + 1), [], 0, v3) ⟨trivial, h⟩ ⟨rfl, ⟨rfl, rfl, rfl, rfl, trivial⟩, ⟨rfl, trivial⟩⟩ ?_
  rintro ⟨m10, l7, i9, v8⟩ ⟨hsf1, h⟩
  change True at hsf1
  change F_r28_of_l1 l1 kind2 m10 l7 i9 = some r at h
  change AW _ _ _ ⟨slots [(0, rd (ksl kAction) l1), (1, rd (kint .i64) kind2), (5, raw v8), (6, rd (kint .i64) i9)], ress [(1002, Row v8 121 kAction l7)], _⟩
  cases m10 with
  | zero => cases h
  | succ m10 =>
    unfold F_r28_of_l1 at h
    generalize hgo1 : F_r28_of_l1 l1 kind2 m10 = go1 at h
    refine AW.seq <| SR <| Md rfl <| Md rfl <| Ac (op_len' rfl rfl sl122 (vt rfl)) rfl <| Ac (op_lss rfl rfl (vt rfl) (vt rfl)) rfl <| Nl <| Cn rfl (fun hc => ?_) (fun hc => ?_)
    · have h := cond_t hc h
      refine AW.skip <| AW.seq <| AW.block <| AW.seq ?_
      obtain ⟨e11, he11, h⟩ := bsome h
      refine Rg <| Md rfl <| Md rfl <| Ac (op_indexs' rfl rfl sl122 (vt rfl) (vt rfl) he11) rfl <| Fp lAction_0 fl121_0 rfl <| Lp1 ty3 rfl <| Md rfl <| Ac (op_eql rfl rfl (vt rfl) (vt rfl)) rfl <| Nl <| Cn rfl (fun hc => ?_) (fun hc => ?_)
      · have h := cond_t hc h
        obtain ⟨e12, he12, h⟩ := bsome h
        obtain ⟨l13, hl13, h⟩ := bsome h
        refine Rg <| Mw rfl <| Md rfl <| Md rfl <| Ac (op_indexs' rfl rfl sl122 (vt rfl) (vt rfl) he12) rfl <| Lp1 ty121 rfl <| Ac (op_buildSliceR (ps := [(0, .tmp 25)]) (l := [e12]) rfl rfl sl122 zr121 rfl rfl ⟨_, _, Lens.idx 1 kAction 0 (by decide), _, rfl, (vt rfl), rfl⟩ rfl) rfl <| Ct rfl (op_append' 1002 hl13 rfl rfl el122 (vt rfl) rfl (vt rfl)) ?_
        rintro _ ⟨v14, rfl⟩
        refine Aw rfl <| Nl <| Rg <| Md rfl <| Ac (op_add rfl rfl (vt rfl) (vk rfl)) rfl <| As rfl <| Nl ?_
        subst hgo1
        exact ⟨(m10, l13, (IntKind.i64.wrap (i9 + 1)), v14), Nat.lt_succ_self _, ⟨trivial, h⟩, ⟨rfl, ⟨rfl, rfl, rfl, rfl, trivial⟩, ⟨rfl, trivial⟩⟩⟩
      · have h := cond_f hc h
        refine AW.skip <| Rg <| Md rfl <| Ac (op_add rfl rfl (vt rfl) (vk rfl)) rfl <| As rfl <| Nl ?_
        subst hgo1
        exact ⟨(m10, l7, (IntKind.i64.wrap (i9 + 1)), v8), Nat.lt_succ_self _, ⟨trivial, h⟩, ⟨rfl, ⟨rfl, rfl, rfl, rfl, trivial⟩, ⟨rfl, trivial⟩⟩⟩
    · have h := cond_f hc h
      refine AW.exit <| SR <| Mw rfl <| Aw rfl <| Nl <| AW.ret ?_
      obtain rfl := si h
      exact ret1R (i := 1002) Tryz.results227 rfl rfl rfl
theorem c_r28_of (l1 : (List Action)) (kind2 : Int) (r : (List Action)) (h : F_r28_of l1 kind2 = some r) : PCon Tryz.prog 227 [rd (ksl kAction) l1, rd (kint .i64) kind2] (rd (ksl kAction) r) := PCon.of_row (c_r28_of_o l1 kind2 r h)
end Go.Proofs.YtknpgojdkobgjaaGreat.W
set_option linter.unusedVariables false
set_option maxRecDepth 4000
set_option linter.unusedSimpArgs false
namespace Go.Proofs.YtknpgojdkobgjaaGreat.W
open Go Go.Wb
theorem e227 : Ent Tryz.prog 227 := Ent.mk Tryz.func227 rfl rfl
theorem e228 : Ent Tryz.prog 228 := Ent.mk Tryz.func228 rfl rfl
theorem e145 : Ent Tryz.prog 145 := Ent.mk Tryz.func145 rfl rfl
theorem e188 : Ent Tryz.prog 188 := Ent.mk Tryz.func188 rfl rfl
theorem e226 : Ent Tryz.prog 226 := Ent.mk Tryz.func226 rfl rfl
theorem e80 : Ent Tryz.prog 80 := Ent.mk Tryz.func80 rfl rfl
theorem e154 : Ent Tryz.prog 154 := Ent.mk Tryz.func154 rfl rfl
def F_r28_fields_l3 (at11 : Int) (l1 : (List Action)) (i8 : Int) (go1 : (List Action) → Int → Option (List Action)) : Nat → (List Action) → Int → Option (List Action)
  | 0, _, _ => none
  | m21 + 1, l19, j20 => (bif (decide (j20 > at11)) then (lget l19 (IntKind.i64.wrap (j20 - 1))).bind fun e22 => (lget l19 j20).bind fun e23 => (F_r28_fields_l3 at11 l1 i8 go1 m21) (List.set l19 j20.toNat e22) (IntKind.i64.wrap (j20 - 1)) else (lget l1 i8).bind fun e24 => (lget l19 at11).bind fun e25 => go1 (List.set l19 at11.toNat e24) (IntKind.i64.wrap (i8 + 1)))
def F_r28_fields_l2 (l6 : (List Action)) (l1 : (List Action)) (i8 : Int) (go1 : (List Action) → Int → Option (List Action)) : Nat → Int → Option (List Action)
  | 0, _ => none
  | m12 + 1, at11 => (opt (decide (at11 > 0)) (lget l6 (IntKind.i64.wrap (at11 - 1)))).bind fun e13 => (opt (decide (at11 > 0)) (lget l1 i8)).bind fun e14 => (bif ((decide (at11 > 0)) && (decide (e13.Oxm.Field > e14.Oxm.Field))) then (F_r28_fields_l2 l6 l1 i8 go1 m12) (IntKind.i64.wrap (at11 - 1)) else (appd l6 [(⟨0, 0, 0, 0, 0, zOxm⟩ : Action)]).bind fun l15 => F_r28_fields_l3 at11 l1 i8 go1 ((((IntKind.i64.wrap ((l15.length : Int) - 1)) : Int) - at11).toNat + 1) l15 (IntKind.i64.wrap ((l15.length : Int) - 1)))
def F_r28_fields_l1 (l1 : (List Action)) : Nat → (List Action) → Int → Option (List Action)
  | 0, _, _ => none
  | m9 + 1, l6, i8 => (bif (decide (i8 < (l1.length : Int))) then F_r28_fields_l2 l6 l1 i8 (F_r28_fields_l1 l1 m9) fuel0 (l6.length : Int) else some l6)
def F_r28_fields (l1 : (List Action)) : Option (List Action) :=
  F_r28_fields_l1 l1 ((((l1.length : Int) : Int) - 0).toNat + 1) [] 0
theorem c_r28_fields (l1 : (List Action)) (r : (List Action)) (h : F_r28_fields l1 = some r) : PCon Tryz.prog 228 [rd (ksl kAction) l1] (rd (ksl kAction) r) := by
  refine PCon.of (Con.intro0 Tryz.func228 rfl Tryz.ntmps228 rfl fun w H => ?_)
  unfold F_r28_fields at h
  refine SR <| Ac (op_assign (A := rd (ksl kAction) []) rfl rfl vnil) rfl <| Nl <| SR <| Ct rfl (op_buildSlice 1001 (ps := []) (l := []) rfl rfl sl122 zr121 rfl rfl rfl rfl) ?_
  rintro _ ⟨v2, rfl⟩
  refine Aw rfl <| Nl <| AW.seq <| SR <| Ak rfl <| Nl <| AW.block <| AW.loopG (d := []) (ν := Nat × (List Action) × Int × Value) (fun n => True ∧ F_r28_fields_l1 l1 n.1 n.2.1 n.2.2.1 = some r) (fun n => n.1) (fun n => [(0, rd (ksl kAction) l1), (3, raw n.2.2.2), (4, rd (kint .i64) n.2.2.1)]) (fun n => [(1001, Row n.2.2.2 121 kAction n.2.1)]) (((((l1.length : Int) : Int) - 0).toNat + 1), [], 0, v2) ⟨trivial, h⟩ ⟨rfl, ⟨rfl, rfl, rfl, trivial⟩, ⟨rfl, trivial⟩⟩ ?_
  rintro ⟨m9, l6, i8, v7⟩ ⟨hsf1, h⟩
  change True at hsf1
  change F_r28_fields_l1 l1 m9 l6 i8 = some r at h
  change AW _ _ _ ⟨slots [(0, rd (ksl kAction) l1), (3, raw v7), (4, rd (kint .i64) i8)], ress [(1001, Row v7 121 kAction l6)], _⟩
  cases m9 with
  | zero => cases h
  | succ m9 =>
    unfold F_r28_fields_l1 at h
    generalize hgo1 : F_r28_fields_l1 l1 m9 = go1 at h
    refine AW.seq <| SR <| Md rfl <| Md rfl <| Ac (op_len' rfl rfl sl122 (vt rfl)) rfl <| Ac (op_lss rfl rfl (vt rfl) (vt rfl)) rfl <| Nl <| Cn rfl (fun hc => ?_) (fun hc => ?_)
    · have h := cond_t hc h
      refine AW.skip <| AW.seq <| AW.block <| SR <| Mw rfl <| Ac (op_leno 1001 rfl rfl sl122 (vt rfl) rfl) rfl <| As rfl <| Nl <| AW.seq <| AW.block <| AW.loopG (d := []) (ν := Nat × Int) (fun n => True ∧ F_r28_fields_l2 l6 l1 i8 go1 n.1 n.2 = some r) (fun n => n.1) (fun n => [(0, rd (ksl kAction) l1), (3, raw v7), (4, rd (kint .i64) i8), (5, rd (kint .i64) n.2)]) (fun n => [(1001, Row v7 121 kAction l6)]) (fuel0, (l6.length : Int)) ⟨trivial, h⟩ ⟨rfl, ⟨rfl, rfl, rfl, rfl, trivial⟩, ⟨rfl, trivial⟩⟩ ?_
      rintro ⟨m12, at11⟩ ⟨hsf2, h⟩
      change True at hsf2
      change F_r28_fields_l2 l6 l1 i8 go1 m12 at11 = some r at h
      change AW _ _ _ ⟨slots [(0, rd (ksl kAction) l1), (3, raw v7), (4, rd (kint .i64) i8), (5, rd (kint .i64) at11)], ress [(1001, Row v7 121 kAction l6)], _⟩
      cases m12 with
      | zero => cases h
      | succ m12 =>
        unfold F_r28_fields_l2 at h
        generalize hgo2 : F_r28_fields_l2 l6 l1 i8 go1 m12 = go2 at h
        refine AW.seq <| AW.seq ?_
        obtain ⟨e13, he13, h⟩ := bsome h
        obtain ⟨e14, he14, h⟩ := bsome h
        refine AW.regionAny [⟨[5], [16], [], []⟩, ⟨[16], [17], [], []⟩, ⟨[17], [18], [], []⟩, ⟨[3, 18], [19], [], []⟩, ⟨[5, 18], [20], [], []⟩, ⟨[20, 18], [21], [], []⟩, ⟨[19, 21, 18], [22], [1001], []⟩, ⟨[22, 18], [23], [], []⟩, ⟨[23, 18], [24], [], []⟩, ⟨[24, 18], [25], [1001], []⟩, ⟨[0, 18], [26], [], []⟩, ⟨[4, 18], [27], [], []⟩, ⟨[26, 27, 18], [28], [], []⟩, ⟨[28, 18], [29], [], []⟩, ⟨[29, 18], [30], [], []⟩, ⟨[30, 18], [31], [], []⟩, ⟨[25, 31, 18], [32], [], []⟩, ⟨[32, 18], [33], [], []⟩] mixed (by kernel_rfl) <| SMd rfl <| Sc (lo [16] [] rfl fun S hs hr => op_gtr rfl rfl (vh hs 16 rfl rfl) (vk rfl)) rfl <| SMd rfl <| Sc (lg [3, 18] [] rfl fun hq S hs hr => op_move (A := raw v7) rfl rfl (vh hs 3 rfl rfl)) rfl <| Sc (lg [5, 18] [] rfl fun hq S hs hr => op_move (A := rd (kint .i64) at11) rfl rfl (vh hs 5 rfl rfl)) rfl <| Sc (lg [20, 18] [] rfl fun hq S hs hr => op_sub rfl rfl (vgt ((hs 20 rfl).trans rfl) hq) (vk rfl)) rfl <| Sc (lg [19, 21, 18] [1001] rfl fun hq S hs hr => op_indexo' 1001 rfl rfl sl122 (vgt ((hs 19 rfl).trans rfl) hq) ((hr 1001 rfl).trans rfl) (vgt ((hs 21 rfl).trans rfl) hq) (opt_t he13 hq)) rfl <| Sc (lg [22, 18] [] rfl fun hq S hs hr => op_fieldo lAction_5 rfl rfl fl121_5 (vgt ((hs 22 rfl).trans rfl) hq)) rfl <| Sc (lg [23, 18] [] rfl fun hq S hs hr => op_fieldo lOxm_0 rfl rfl fl119_0 (vgt ((hs 23 rfl).trans rfl) hq)) rfl <| Sc (lg [24, 18] [1001] rfl fun hq S hs hr => op_loado' 1001 rfl rfl ty3 (vgt ((hs 24 rfl).trans rfl) hq) ((hr 1001 rfl).trans rfl) (lget_of (opt_t he13 hq)).2) rfl <| Sc (lg [0, 18] [] rfl fun hq S hs hr => op_move (A := rd (ksl kAction) l1) rfl rfl (vh hs 0 rfl rfl)) rfl <| Sc (lg [4, 18] [] rfl fun hq S hs hr => op_move (A := rd (kint .i64) i8) rfl rfl (vh hs 4 rfl rfl)) rfl <| Sc (lg [26, 27, 18] [] rfl fun hq S hs hr => op_indexs' rfl rfl sl122 (vgt ((hs 26 rfl).trans rfl) hq) (vgt ((hs 27 rfl).trans rfl) hq) (opt_t he14 hq)) rfl <| Sc (lg [28, 18] [] rfl fun hq S hs hr => op_fieldp lAction_5 rfl rfl fl121_5 (vgt ((hs 28 rfl).trans rfl) hq)) rfl <| Sc (lg [29, 18] [] rfl fun hq S hs hr => op_fieldp lOxm_0 rfl rfl fl119_0 (vgt ((hs 29 rfl).trans rfl) hq)) rfl <| Sc (lg [30, 18] [] rfl fun hq S hs hr => op_loadp rfl rfl ty3 (vgt ((hs 30 rfl).trans rfl) hq)) rfl <| Sc (lg [25, 31, 18] [] rfl fun hq S hs hr => op_gtr rfl rfl (vgt ((hs 25 rfl).trans rfl) hq) (vgt ((hs 31 rfl).trans rfl) hq)) rfl <| Sc (lo [32, 18] [] rfl fun S hs hr => op_all rfl rfl (vh hs 18 rfl rfl) (vh hs 32 rfl rfl)) rfl <| Cn rfl (fun hc => ?_) (fun hc => ?_)
        · have h := cond_t hc h
          refine AW.skip <| AW.block <| Rg <| Md rfl <| Ac (op_sub rfl rfl (vt rfl) (vk rfl)) rfl <| As rfl <| Nl ?_
          subst hgo2
          exact ⟨(m12, (IntKind.i64.wrap (at11 - 1))), Nat.lt_succ_self _, ⟨trivial, h⟩, ⟨rfl, ⟨rfl, rfl, rfl, rfl, trivial⟩, ⟨rfl, trivial⟩⟩⟩
        · have h := cond_f hc h
          refine AW.exit <| AW.seq ?_
          obtain ⟨l15, hl15, h⟩ := bsome h
          refine Rg <| Mw rfl <| Ac (op_build (ps := []) (x := (⟨0, 0, 0, 0, 0, zOxm⟩ : Action)) rfl rfl rfl (by kernel_rfl) zr121 rfl) rfl <| Ac (op_buildSliceR (ps := [(0, .tmp 37)]) (l := [(⟨0, 0, 0, 0, 0, zOxm⟩ : Action)]) rfl rfl sl122 zr121 rfl rfl ⟨_, _, Lens.idx 1 kAction 0 (by decide), _, rfl, (vt rfl), rfl⟩ rfl) rfl <| Ct rfl (op_append' 1001 hl15 rfl rfl el122 (vt rfl) rfl (vt rfl)) ?_
          rintro _ ⟨v16, rfl⟩
          refine Aw rfl <| Nl <| AW.seq <| SR <| Mw rfl <| Ac (op_leno 1001 rfl rfl sl122 (vt rfl) rfl) rfl <| Ac (op_sub rfl rfl (vt rfl) (vk rfl)) rfl <| As rfl <| Nl <| AW.block <| AW.loopG (d := []) (ν := Nat × (List Action) × Int) (fun n => True ∧ F_r28_fields_l3 at11 l1 i8 go1 n.1 n.2.1 n.2.2 = some r) (fun n => n.1) (fun n => [(0, rd (ksl kAction) l1), (3, raw v16), (4, rd (kint .i64) i8), (5, rd (kint .i64) at11), (6, rd (kint .i64) n.2.2)]) (fun n => [(1001, Row v16 121 kAction n.2.1)]) (((((IntKind.i64.wrap ((l15.length : Int) - 1)) : Int) - at11).toNat + 1), l15, (IntKind.i64.wrap ((l15.length : Int) - 1))) ⟨trivial, h⟩ ⟨rfl, ⟨rfl, rfl, rfl, rfl, rfl, trivial⟩, ⟨rfl, trivial⟩⟩ ?_
          rintro ⟨m21, l19, j20⟩ ⟨hsf3, h⟩
          change True at hsf3
          change F_r28_fields_l3 at11 l1 i8 go1 m21 l19 j20 = some r at h
          change AW _ _ _ ⟨slots [(0, rd (ksl kAction) l1), (3, raw v16), (4, rd (kint .i64) i8), (5, rd (kint .i64) at11), (6, rd (kint .i64) j20)], ress [(1001, Row v16 121 kAction l19)], _⟩
          cases m21 with
          | zero => cases h
          | succ m21 =>
            unfold F_r28_fields_l3 at h
            generalize hgo3 : F_r28_fields_l3 at11 l1 i8 go1 m21 = go3 at h
            refine AW.seq <| SR <| Md rfl <| Md rfl <| Ac (op_gtr rfl rfl (vt rfl) (vt rfl)) rfl <| Nl <| Cn rfl (fun hc => ?_) (fun hc => ?_)
            · have h := cond_t hc h
              refine AW.skip <| AW.seq <| AW.block ?_
              obtain ⟨e22, he22, h⟩ := bsome h
              obtain ⟨e23, he23, h⟩ := bsome h
              refine Rg <| Mw rfl <| Md rfl <| Mw rfl <| Md rfl <| Ac (op_sub rfl rfl (vt rfl) (vk rfl)) rfl <| Ac (op_indexo' 1001 rfl rfl sl122 (vt rfl) rfl (vt rfl) he22) rfl <| Ac (op_loado' 1001 rfl rfl ty121 (vt rfl) rfl (lget_of he22).2) rfl <| Ac (op_indexo' 1001 rfl rfl sl122 (vt rfl) rfl (vt rfl) he23) rfl <| Ac (op_storeo' 1001 rfl rfl ty121 (vt rfl) rfl (lget_of he23).2 (vt rfl)) rfl <| Nl <| Rg <| Md rfl <| Ac (op_sub rfl rfl (vt rfl) (vk rfl)) rfl <| As rfl <| Nl ?_
              subst hgo3
              exact ⟨(m21, (List.set l19 j20.toNat e22), (IntKind.i64.wrap (j20 - 1))), Nat.lt_succ_self _, ⟨trivial, h⟩, ⟨rfl, ⟨rfl, rfl, rfl, rfl, rfl, trivial⟩, ⟨rfl, trivial⟩⟩⟩
            · have h := cond_f hc h
              refine AW.exit ?_
              obtain ⟨e24, he24, h⟩ := bsome h
              obtain ⟨e25, he25, h⟩ := bsome h
              refine Rg <| Mw rfl <| Md rfl <| Md rfl <| Md rfl <| Ac (op_indexs' rfl rfl sl122 (vt rfl) (vt rfl) he24) rfl <| Lp1 ty121 rfl <| Ac (op_indexo' 1001 rfl rfl sl122 (vt rfl) rfl (vt rfl) he25) rfl <| Ac (op_storeo' 1001 rfl rfl ty121 (vt rfl) rfl (lget_of he25).2 (vt rfl)) rfl <| Nl <| Rg <| Md rfl <| Ac (op_add rfl rfl (vt rfl) (vk rfl)) rfl <| As rfl <| Nl ?_
              subst hgo1
              exact ⟨(m9, (List.set l19 at11.toNat e24), (IntKind.i64.wrap (i8 + 1)), v16), Nat.lt_succ_self _, ⟨trivial, h⟩, ⟨rfl, ⟨rfl, rfl, rfl, trivial⟩, ⟨rfl, trivial⟩⟩⟩
    · have h := cond_f hc h
      refine AW.exit <| SR <| Mw rfl <| Aw rfl <| Nl <| AW.freezes [2, 3, 63] 1001 rfl ⟨rfl, rfl, rfl, trivial⟩ rfl <| AW.ret ?_
      obtain rfl := si h
      exact ret1 Tryz.results228 rfl (out_tmp rfl)
def F_r28_List (set1 : (List Action)) : Option (List Action) :=
  (F_r28_of set1 18).bind fun x2 => (F_r28_of set1 17).bind fun x4 => (appd x2 x4).bind fun l5 => (F_r28_of set1 25).bind fun x7 => (F_r28_fields x7).bind fun x8 => (appd l5 x8).bind fun l9 => (F_r28_of set1 22).bind fun x11 => (bif (decide ((x11.length : Int) > 0)) then (appd l9 x11).bind fun l12 => some l12 else (F_r28_of set1 0).bind fun x14 => (appd l9 x14).bind fun l15 => some l15)
theorem c_r28_List (set1 : (List Action)) (r : (List Action)) (h : F_r28_List set1 = some r) : PCon Tryz.prog 155 [rd (ksl kAction) set1] (rd (ksl kAction) r) := by
  refine PCon.of (Con.intro0 Tryz.func155 rfl Tryz.ntmps155 rfl fun w H => ?_)
  unfold F_r28_List at h
  refine SR <| Ac (op_assign (A := rd (ksl kAction) []) rfl rfl vnil) rfl <| Nl <| AW.seq ?_
  obtain ⟨x2, hx2, h⟩ := bsome h
  obtain ⟨x4, hx4, h⟩ := bsome h
  obtain ⟨l5, hl5, h⟩ := bsome h
  refine Rg <| Md rfl <| Ct rfl (op_callR 1001 (xs := [.tmp 5, .const (Value.int IntKind.i64 18)]) (c_r28_of_o _ _ _ hx2) e227 rfl rfl ⟨vt rfl, vk rfl, trivial⟩ rfl) ?_
  rintro _ ⟨v3, rfl⟩
  refine Md rfl <| Ac (op_call (xs := [.tmp 7, .const (Value.int IntKind.i64 17)]) (c_r28_of _ _ _ hx4) e227 rfl rfl ⟨vt rfl, vk rfl, trivial⟩) rfl <| Ct rfl (op_append' 1001 hl5 rfl rfl el122 (vt rfl) rfl (vt rfl)) ?_
  rintro _ ⟨v6, rfl⟩
  refine Aw rfl <| Nl <| AW.seq ?_
  obtain ⟨x7, hx7, h⟩ := bsome h
  obtain ⟨x8, hx8, h⟩ := bsome h
  obtain ⟨l9, hl9, h⟩ := bsome h
  refine Rg <| Mw rfl <| Md rfl <| Ac (op_call (xs := [.tmp 11, .const (Value.int IntKind.i64 25)]) (c_r28_of _ _ _ hx7) e227 rfl rfl ⟨vt rfl, vk rfl, trivial⟩) rfl <| Cl [12] (c_r28_fields _ _ hx8) e228 rfl <| Ct rfl (op_append' 1001 hl9 rfl rfl el122 (vt rfl) rfl (vt rfl)) ?_
  rintro _ ⟨v10, rfl⟩
  refine Aw rfl <| Nl <| AW.seq <| AW.seq ?_
  obtain ⟨x11, hx11, h⟩ := bsome h
  refine Rg <| Md rfl <| Ac (op_call (xs := [.tmp 15, .const (Value.int IntKind.i64 22)]) (c_r28_of _ _ _ hx11) e227 rfl rfl ⟨vt rfl, vk rfl, trivial⟩) rfl <| As rfl <| Nl <| SR <| Md rfl <| Ac (op_len' rfl rfl sl122 (vt rfl)) rfl <| Ac (op_gtr rfl rfl (vt rfl) (vk rfl)) rfl <| Nl <| Cn rfl (fun hc => ?_) (fun hc => ?_)
  · have h := cond_t hc h
    refine AW.seq ?_
    obtain ⟨l12, hl12, h⟩ := bsome h
    refine Rg <| Mw rfl <| Md rfl <| Ct rfl (op_append' 1001 hl12 rfl rfl el122 (vt rfl) rfl (vt rfl)) ?_
    rintro _ ⟨v13, rfl⟩
    refine Aw rfl <| Nl <| AW.freezes [2, 22] 1001 rfl ⟨rfl, rfl, trivial⟩ rfl <| AW.ret ?_
    obtain rfl := si h
    exact ret1 Tryz.results155 rfl (out_tmp rfl)
  · have h := cond_f hc h
    refine AW.skip <| AW.seq ?_
    obtain ⟨x14, hx14, h⟩ := bsome h
    obtain ⟨l15, hl15, h⟩ := bsome h
    refine Rg <| Mw rfl <| Md rfl <| Ac (op_call (xs := [.tmp 24, .const (Value.int IntKind.i64 0)]) (c_r28_of _ _ _ hx14) e227 rfl rfl ⟨vt rfl, vk rfl, trivial⟩) rfl <| Ct rfl (op_append' 1001 hl15 rfl rfl el122 (vt rfl) rfl (vt rfl)) ?_
    rintro _ ⟨v16, rfl⟩
    refine Aw rfl <| Nl <| AW.freezes [2, 26] 1001 rfl ⟨rfl, rfl, trivial⟩ rfl <| AW.ret ?_
    obtain rfl := si h
    exact ret1 Tryz.results155 rfl (out_tmp rfl)
def F_r09_None : Option (Vector Tern 24) :=
  some (Vector.replicate 24 zTern)
theorem c_r09_None (r : (Vector Tern 24)) (h : F_r09_None = some r) : PCon Tryz.prog 80 [] (rd (karr 24 kTern) r) := by
  refine PCon.of (Con.intro0 Tryz.func80 rfl Tryz.ntmps80 rfl fun w H => ?_)
  unfold F_r09_None at h
  refine SR <| Ct rfl (op_alloc 1 rfl rfl zr101) ?_
  rintro _ ⟨g1, rfl⟩
  refine Nl <| SR <| Ac (op_build (ps := []) (x := (Vector.replicate 24 zTern)) rfl rfl rfl (by kernel_rfl) zr101 rfl) rfl <| Sto ty101 1 rfl <| Nl <| AW.ret ?_
  obtain rfl := si h
  exact ret1 Tryz.results80 rfl (out_cell rfl (i := 1) rfl ty101)
def F_r09_Clean_l1 : Nat → (Vector Tern 24) → Int → Option (Vector Tern 24)
  | 0, _, _ => none
  | m8 + 1, b6, f7 => (bif (decide (f7 < 24)) then (chk 24 f7).bind fun j9 => (F_r05_Clean (Vector.get b6 j9)).bind fun x10 => (chk 24 f7).bind fun j11 => (F_r09_Clean_l1 m8) (Vector.set b6 j11.1 x10 j11.2) (IntKind.i64.wrap (f7 + 1)) else some b6)
def F_r09_Clean (r1 : (Vector Tern 24)) : Option (Vector Tern 24) :=
  F_r09_Clean_l1 (((24 : Int) - 0).toNat + 1) r1 0
theorem c_r09_Clean (r1 : (Vector Tern 24)) (r : (Vector Tern 24)) (h : F_r09_Clean r1 = some r) : PCon Tryz.prog 145 [rd (karr 24 kTern) r1] (rd (karr 24 kTern) r) := by
  refine PCon.of (Con.intro0 Tryz.func145 rfl Tryz.ntmps145 rfl fun w H => ?_)
  unfold F_r09_Clean at h
  refine SR <| Ct rfl (op_box 2 rfl rfl (vt rfl)) ?_
  rintro _ ⟨g2, rfl⟩
  refine Ct rfl (op_alloc 3 rfl rfl zr101) ?_
  rintro _ ⟨g3, rfl⟩
  refine Nl <| AW.seq <| SR <| Ak rfl <| Nl <| AW.block <| AW.loopG (d := []) (ν := Nat × (Vector Tern 24) × Int) (fun n => True ∧ F_r09_Clean_l1 n.1 n.2.1 n.2.2 = some r) (fun n => n.1) (fun n => [(1, ptrL g2 (Lens.id (karr 24 kTern))), (2, ptrL g3 (Lens.id (karr 24 kTern))), (3, rd (kint .i64) n.2.2)]) (fun n => [(2, Blk g2 101 (karr 24 kTern) n.2.1), (3, Blk g3 101 (karr 24 kTern) (Vector.replicate 24 zTern))]) ((((24 : Int) - 0).toNat + 1), r1, 0) ⟨trivial, h⟩ ⟨rfl, ⟨rfl, rfl, rfl, trivial⟩, ⟨rfl, rfl, trivial⟩⟩ ?_
  rintro ⟨m8, b6, f7⟩ ⟨hsf1, h⟩
  change True at hsf1
  change F_r09_Clean_l1 m8 b6 f7 = some r at h
  change AW _ _ _ ⟨slots [(1, ptrL g2 (Lens.id (karr 24 kTern))), (2, ptrL g3 (Lens.id (karr 24 kTern))), (3, rd (kint .i64) f7)], ress [(2, Blk g2 101 (karr 24 kTern) b6), (3, Blk g3 101 (karr 24 kTern) (Vector.replicate 24 zTern))], _⟩
  cases m8 with
  | zero => cases h
  | succ m8 =>
    unfold F_r09_Clean_l1 at h
    generalize hgo1 : F_r09_Clean_l1 m8 = go1 at h
    refine AW.seq <| SR <| Md rfl <| Ac (op_lss rfl rfl (vt rfl) (vk rfl)) rfl <| Nl <| Cn rfl (fun hc => ?_) (fun hc => ?_)
    · have h := cond_t hc h
      refine AW.skip <| AW.seq <| AW.block ?_
      obtain ⟨j9, hj9, h⟩ := bsome h
      obtain ⟨x10, hx10, h⟩ := bsome h
      obtain ⟨j11, hj11, h⟩ := bsome h
      refine Rg <| Md rfl <| Md rfl <| Ac (op_index' rfl rfl ar101 (vt rfl) (vt rfl) hj9) rfl <| Ld ty85 2 rfl <| Cl [11] (c_r05_Clean _ _ hx10) e144 rfl <| Ac (op_index' rfl rfl ar101 (vt rfl) (vt rfl) hj11) rfl <| Sto ty85 2 rfl <| Nl <| Rg <| Md rfl <| Ac (op_add rfl rfl (vt rfl) (vk rfl)) rfl <| As rfl <| Nl ?_
      subst hgo1
      exact ⟨(m8, (Vector.set b6 j11.1 x10 j11.2), (IntKind.i64.wrap (f7 + 1))), Nat.lt_succ_self _, ⟨trivial, h⟩, ⟨rfl, ⟨rfl, rfl, rfl, trivial⟩, ⟨rfl, rfl, trivial⟩⟩⟩
    · have h := cond_f hc h
      refine AW.exit <| SR <| Ld ty101 2 rfl <| Sto ty101 3 rfl <| Nl <| AW.ret ?_
      obtain rfl := si h
      exact ret1 Tryz.results145 rfl (out_cell rfl (i := 3) rfl ty101)
def F_r02_Less (a1 : Wide) (b2 : Wide) : Option Wide :=
  some (⟨(a1.Hi &&& ~~~b2.Hi), (a1.Lo &&& ~~~b2.Lo)⟩ : Wide)
theorem c_r02_Less (a1 : Wide) (b2 : Wide) (r : Wide) (h : F_r02_Less a1 b2 = some r) : PCon Tryz.prog 188 [rd kWide a1, rd kWide b2] (rd kWide r) := by
  refine PCon.of (Con.intro0 Tryz.func188 rfl Tryz.ntmps188 rfl fun w H => ?_)
  unfold F_r02_Less at h
  refine SR <| Ct rfl (op_box 3 rfl rfl (vt rfl)) ?_
  rintro _ ⟨g3, rfl⟩
  refine Ct rfl (op_box 4 rfl rfl (vt rfl)) ?_
  rintro _ ⟨g4, rfl⟩
  refine Ct rfl (op_alloc 5 rfl rfl zr42) ?_
  rintro _ ⟨g5, rfl⟩
  refine Nl <| SR <| FdA lWide_0 fl42_0 rfl <| Ld ty40 3 rfl <| FdA lWide_0 fl42_0 rfl <| Ld ty40 4 rfl <| Ac (op_andNot rfl rfl (vt rfl) (vt rfl)) rfl <| FdA lWide_1 fl42_1 rfl <| Ld ty40 3 rfl <| FdA lWide_1 fl42_1 rfl <| Ld ty40 4 rfl <| Ac (op_andNot rfl rfl (vt rfl) (vt rfl)) rfl <| Ac (op_build (ps := [(0, .tmp 9), (1, .tmp 14)]) (x := (⟨(a1.Hi &&& ~~~b2.Hi), (a1.Lo &&& ~~~b2.Lo)⟩ : Wide)) rfl rfl rfl (by kernel_rfl) zr42 ⟨_, _, lWide_0, _, by kernel_rfl, (vt rfl), _, _, lWide_1, _, by kernel_rfl, (vt rfl), rfl⟩) rfl <| Sto ty42 5 rfl <| Nl <| AW.ret ?_
  obtain rfl := si h
  exact ret1 Tryz.results188 rfl (out_cell rfl (i := 5) rfl ty42)
def F_r09_Then_l1 (x7 : (Vector Tern 24)) : Nat → (Vector Tern 24) → Int → Option (Vector Tern 24)
  | 0, _, _ => none
  | m12 + 1, b10, f11 => (bif (decide (f11 < 24)) then (chk 24 f11).bind fun j13 => (chk 24 f11).bind fun j14 => (F_r02_Less ((Vector.get b10 j13).Value) ((Vector.get x7 j14).Mask)).bind fun x15 => (chk 24 f11).bind fun j16 => (F_r02_Or x15 ((Vector.get x7 j16).Value)).bind fun x17 => (chk 24 f11).bind fun j18 => (chk 24 f11).bind fun j19 => (F_r02_Or ((Vector.get b10 j18).Mask) ((Vector.get x7 j19).Mask)).bind fun x20 => (chk 24 f11).bind fun j21 => (F_r09_Then_l1 x7 m12) (Vector.set b10 j21.1 (⟨x17, x20⟩ : Tern) j21.2) (IntKind.i64.wrap (f11 + 1)) else some b10)
def F_r09_Then (a1 : (Vector Tern 24)) (b2 : (Vector Tern 24)) : Option (Vector Tern 24) :=
  (F_r09_Clean a1).bind fun x6 => (F_r09_Clean b2).bind fun x7 => F_r09_Then_l1 x7 (((24 : Int) - 0).toNat + 1) x6 0
theorem c_r09_Then (a1 : (Vector Tern 24)) (b2 : (Vector Tern 24)) (r : (Vector Tern 24)) (h : F_r09_Then a1 b2 = some r) : PCon Tryz.prog 226 [rd (karr 24 kTern) a1, rd (karr 24 kTern) b2] (rd (karr 24 kTern) r) := by
  refine PCon.of (Con.intro0 Tryz.func226 rfl Tryz.ntmps226 rfl fun w H => ?_)
  unfold F_r09_Then at h
  refine SR <| Ct rfl (op_box 3 rfl rfl (vt rfl)) ?_
  rintro _ ⟨g3, rfl⟩
  refine Ct rfl (op_box 4 rfl rfl (vt rfl)) ?_
  rintro _ ⟨g4, rfl⟩
  refine Ct rfl (op_alloc 5 rfl rfl zr101) ?_
  rintro _ ⟨g5, rfl⟩
  refine Nl <| AW.seq ?_
  obtain ⟨x6, hx6, h⟩ := bsome h
  obtain ⟨x7, hx7, h⟩ := bsome h
  refine AW.regionAny [⟨[2], [6], [3], []⟩, ⟨[6], [7], [], []⟩, ⟨[3], [8], [4], []⟩, ⟨[8], [9], [], []⟩, ⟨[2, 7], [], [3], [3]⟩, ⟨[3, 9], [], [4], [4]⟩] mixed (by kernel_rfl) <| SLd ty101 3 rfl <| SCl [6] (c_r09_Clean _ _ hx6) e145 rfl <| SLd ty101 4 rfl <| SCl [8] (c_r09_Clean _ _ hx7) e145 rfl <| SSt ty101 3 rfl <| SSt ty101 4 rfl <| AW.seq <| SR <| Ak rfl <| Nl <| AW.block <| AW.loopG (d := []) (ν := Nat × (Vector Tern 24) × Int) (fun n => True ∧ F_r09_Then_l1 x7 n.1 n.2.1 n.2.2 = some r) (fun n => n.1) (fun n => [(2, ptrL g3 (Lens.id (karr 24 kTern))), (3, ptrL g4 (Lens.id (karr 24 kTern))), (4, ptrL g5 (Lens.id (karr 24 kTern))), (5, rd (kint .i64) n.2.2)]) (fun n => [(3, Blk g3 101 (karr 24 kTern) n.2.1), (4, Blk g4 101 (karr 24 kTern) x7), (5, Blk g5 101 (karr 24 kTern) (Vector.replicate 24 zTern))]) ((((24 : Int) - 0).toNat + 1), x6, 0) ⟨trivial, h⟩ ⟨rfl, ⟨rfl, rfl, rfl, rfl, trivial⟩, ⟨rfl, rfl, rfl, trivial⟩⟩ ?_
  rintro ⟨m12, b10, f11⟩ ⟨hsf1, h⟩
  change True at hsf1
  change F_r09_Then_l1 x7 m12 b10 f11 = some r at h
  change AW _ _ _ ⟨slots [(2, ptrL g3 (Lens.id (karr 24 kTern))), (3, ptrL g4 (Lens.id (karr 24 kTern))), (4, ptrL g5 (Lens.id (karr 24 kTern))), (5, rd (kint .i64) f11)], ress [(3, Blk g3 101 (karr 24 kTern) b10), (4, Blk g4 101 (karr 24 kTern) x7), (5, Blk g5 101 (karr 24 kTern) (Vector.replicate 24 zTern))], _⟩
  cases m12 with
  | zero => cases h
  | succ m12 =>
    unfold F_r09_Then_l1 at h
    generalize hgo1 : F_r09_Then_l1 x7 m12 = go1 at h
    refine AW.seq <| SR <| Md rfl <| Ac (op_lss rfl rfl (vt rfl) (vk rfl)) rfl <| Nl <| Cn rfl (fun hc => ?_) (fun hc => ?_)
    · have h := cond_t hc h
      refine AW.skip <| AW.seq <| AW.block ?_
      obtain ⟨j13, hj13, h⟩ := bsome h
      obtain ⟨j14, hj14, h⟩ := bsome h
      obtain ⟨x15, hx15, h⟩ := bsome h
      obtain ⟨j16, hj16, h⟩ := bsome h
      obtain ⟨x17, hx17, h⟩ := bsome h
      obtain ⟨j18, hj18, h⟩ := bsome h
      obtain ⟨j19, hj19, h⟩ := bsome h
      obtain ⟨x20, hx20, h⟩ := bsome h
      obtain ⟨j21, hj21, h⟩ := bsome h
      refine AW.regionAny [⟨[5], [14], [], []⟩, ⟨[5], [15], [], []⟩, ⟨[2, 15], [16], [], []⟩, ⟨[16], [17], [], []⟩, ⟨[17], [18], [3], []⟩, ⟨[5], [19], [], []⟩, ⟨[3, 19], [20], [], []⟩, ⟨[20], [21], [], []⟩, ⟨[21], [22], [4], []⟩, ⟨[18, 22], [23], [], []⟩, ⟨[5], [24], [], []⟩, ⟨[3, 24], [25], [], []⟩, ⟨[25], [26], [], []⟩, ⟨[26], [27], [4], []⟩, ⟨[23, 27], [28], [], []⟩, ⟨[5], [29], [], []⟩, ⟨[2, 29], [30], [], []⟩, ⟨[30], [31], [], []⟩, ⟨[31], [32], [3], []⟩, ⟨[5], [33], [], []⟩, ⟨[3, 33], [34], [], []⟩, ⟨[34], [35], [], []⟩, ⟨[35], [36], [4], []⟩, ⟨[32, 36], [37], [], []⟩, ⟨[28, 37], [38], [], []⟩, ⟨[2, 14], [39], [], []⟩, ⟨[39, 38], [], [3], [3]⟩] mixed (by kernel_rfl) <| SMd rfl <| SMd rfl <| Sc (lo [2, 15] [] rfl fun S hs hr => op_index' rfl rfl ar101 (vh hs 2 rfl rfl) (vh hs 15 rfl rfl) hj13) rfl <| SFd lTern_0 fl85_0 rfl <| SLd ty42 3 rfl <| SMd rfl <| Sc (lo [3, 19] [] rfl fun S hs hr => op_index' rfl rfl ar101 (vh hs 3 rfl rfl) (vh hs 19 rfl rfl) hj14) rfl <| SFd lTern_1 fl85_1 rfl <| SLd ty42 4 rfl <| SCl [18, 22] (c_r02_Less _ _ _ hx15) e188 rfl <| SMd rfl <| Sc (lo [3, 24] [] rfl fun S hs hr => op_index' rfl rfl ar101 (vh hs 3 rfl rfl) (vh hs 24 rfl rfl) hj16) rfl <| SFd lTern_0 fl85_0 rfl <| SLd ty42 4 rfl <| SCl [23, 27] (c_r02_Or _ _ _ hx17) e187 rfl <| SMd rfl <| Sc (lo [2, 29] [] rfl fun S hs hr => op_index' rfl rfl ar101 (vh hs 2 rfl rfl) (vh hs 29 rfl rfl) hj18) rfl <| SFd lTern_1 fl85_1 rfl <| SLd ty42 3 rfl <| SMd rfl <| Sc (lo [3, 33] [] rfl fun S hs hr => op_index' rfl rfl ar101 (vh hs 3 rfl rfl) (vh hs 33 rfl rfl) hj19) rfl <| SFd lTern_1 fl85_1 rfl <| SLd ty42 4 rfl <| SCl [32, 36] (c_r02_Or _ _ _ hx20) e187 rfl <| Sc (lo [28, 37] [] rfl fun S hs hr => op_build (ps := [(0, .tmp 28), (1, .tmp 37)]) (x := (⟨x17, x20⟩ : Tern)) rfl rfl rfl (by kernel_rfl) zr85 ⟨_, _, lTern_0, _, by kernel_rfl, (vh hs 28 rfl rfl), _, _, lTern_1, _, by kernel_rfl, (vh hs 37 rfl rfl), rfl⟩) rfl <| Sc (lo [2, 14] [] rfl fun S hs hr => op_index' rfl rfl ar101 (vh hs 2 rfl rfl) (vh hs 14 rfl rfl) hj21) rfl <| SSt ty85 3 rfl <| Rg <| Md rfl <| Ac (op_add rfl rfl (vt rfl) (vk rfl)) rfl <| As rfl <| Nl ?_
      subst hgo1
      exact ⟨(m12, (Vector.set b10 j21.1 (⟨x17, x20⟩ : Tern) j21.2), (IntKind.i64.wrap (f11 + 1))), Nat.lt_succ_self _, ⟨trivial, h⟩, ⟨rfl, ⟨rfl, rfl, rfl, rfl, trivial⟩, ⟨rfl, rfl, rfl, trivial⟩⟩⟩
    · have h := cond_f hc h
      refine AW.exit <| SR <| Ld ty101 3 rfl <| Sto ty101 5 rfl <| Nl <| AW.ret ?_
      obtain rfl := si h
      exact ret1 Tryz.results226 rfl (out_cell rfl (i := 5) rfl ty101)
def F_r09_Set_j1 (r1 : (Vector Tern 24)) (b10 : (Vector Tern 24)) : Option (Vector Tern 24) :=
  (F_r09_Then r1 b10).bind fun x11 => some x11
def F_r09_Set (r1 : (Vector Tern 24)) (f2 : Int) (value3 : Wide) (mask4 : Wide) : Option (Vector Tern 24) :=
  (F_r03_Right f2).bind fun x12 => (bif x12 then (chk 24 f2).bind fun j13 => F_r09_Set_j1 r1 (Vector.set (Vector.replicate 24 zTern) j13.1 (⟨value3, mask4⟩ : Tern) j13.2) else F_r09_Set_j1 r1 (Vector.replicate 24 zTern))
theorem c_r09_Set (r1 : (Vector Tern 24)) (f2 : Int) (value3 : Wide) (mask4 : Wide) (r : (Vector Tern 24)) (h : F_r09_Set r1 f2 value3 mask4 = some r) : PCon Tryz.prog 154 [rd (karr 24 kTern) r1, rd (kint .i64) f2, rd kWide value3, rd kWide mask4] (rd (karr 24 kTern) r) := by
  refine PCon.of (Con.intro0 Tryz.func154 rfl Tryz.ntmps154 rfl fun w H => ?_)
  unfold F_r09_Set at h
  refine SR <| Ct rfl (op_box 5 rfl rfl (vt rfl)) ?_
  rintro _ ⟨g5, rfl⟩
  refine Ct rfl (op_box 7 rfl rfl (vt rfl)) ?_
  rintro _ ⟨g6, rfl⟩
  refine Ct rfl (op_box 8 rfl rfl (vt rfl)) ?_
  rintro _ ⟨g7, rfl⟩
  refine Ct rfl (op_alloc 9 rfl rfl zr101) ?_
  rintro _ ⟨g8, rfl⟩
  refine Nl <| SR <| Ac (op_build (ps := []) (x := (Vector.replicate 24 zTern)) rfl rfl rfl (by kernel_rfl) zr101 rfl) rfl <| Ct rfl (op_alloc 10 rfl rfl zr101) ?_
  rintro _ ⟨g9, rfl⟩
  refine Sto ty101 10 rfl <| Nl ?_
  refine AW.join (d := []) (ν := (Vector Tern 24)) (fun n => F_r09_Set_j1 r1 n = some r) (fun n => [(4, ptrL g5 (Lens.id (karr 24 kTern))), (8, ptrL g8 (Lens.id (karr 24 kTern))), (9, ptrL g9 (Lens.id (karr 24 kTern)))]) (fun n => [(5, Blk g5 101 (karr 24 kTern) r1), (9, Blk g8 101 (karr 24 kTern) (Vector.replicate 24 zTern)), (10, Blk g9 101 (karr 24 kTern) n)]) ?hx1 ?hy1
  case hy1 =>
    intro b10 h
    unfold F_r09_Set_j1 at h
    change AW _ _ _ ⟨slots [(4, ptrL g5 (Lens.id (karr 24 kTern))), (8, ptrL g8 (Lens.id (karr 24 kTern))), (9, ptrL g9 (Lens.id (karr 24 kTern)))], ress [(5, Blk g5 101 (karr 24 kTern) r1), (9, Blk g8 101 (karr 24 kTern) (Vector.replicate 24 zTern)), (10, Blk g9 101 (karr 24 kTern) b10)], _⟩
    refine AW.seq ?_
    obtain ⟨x11, hx11, h⟩ := bsome h
    refine Rg <| Ld ty101 5 rfl <| Ld ty101 10 rfl <| Cl [18, 19] (c_r09_Then _ _ _ hx11) e226 rfl <| Sto ty101 9 rfl <| Nl <| AW.ret ?_
    obtain rfl := si h
    exact ret1 Tryz.results154 rfl (out_cell rfl (i := 9) rfl ty101)
  case hx1 =>
    refine AW.seq ?_
    obtain ⟨x12, hx12, h⟩ := bsome h
    refine Rg <| Md rfl <| Cl [11] (c_r03_Right _ _ hx12) e225 rfl <| Nl <| Cn rfl (fun hc => ?_) (fun hc => ?_)
    · have h := cond_t hc h
      obtain ⟨j13, hj13, h⟩ := bsome h
      refine Rg <| Md rfl <| Ld ty42 7 rfl <| Ld ty42 8 rfl <| Ac (op_build (ps := [(0, .tmp 14), (1, .tmp 15)]) (x := (⟨value3, mask4⟩ : Tern)) rfl rfl rfl (by kernel_rfl) zr85 ⟨_, _, lTern_0, _, by kernel_rfl, (vt rfl), _, _, lTern_1, _, by kernel_rfl, (vt rfl), rfl⟩) rfl <| Ac (op_index' rfl rfl ar101 (vt rfl) (vt rfl) hj13) rfl <| Sto ty85 10 rfl <| Nl ?_
      exact ⟨(Vector.set (Vector.replicate 24 zTern) j13.1 (⟨value3, mask4⟩ : Tern) j13.2), h, ⟨rfl, ⟨rfl, rfl, rfl, trivial⟩, ⟨rfl, rfl, rfl, trivial⟩⟩⟩
    · have h := cond_f hc h
      refine AW.skip ?_
      exact ⟨(Vector.replicate 24 zTern), h, ⟨rfl, ⟨rfl, rfl, rfl, trivial⟩, ⟨rfl, rfl, rfl, trivial⟩⟩⟩
def F_r28_Rewrite (a1 : Action) : Option (Vector Tern 24) :=
  (bif (decide (a1.Kind = 25)) then (F_r10_Tern a1.Oxm).bind fun x4 => (F_r09_None).bind fun x6 => (F_r09_Set x6 a1.Oxm.Field x4.Value x4.Mask).bind fun x7 => some x7 else (bif (decide (a1.Kind = 17)) then (F_r09_None).bind fun x8 => (F_r02_Bit 12).bind fun x9 => (F_r02_Bit 12).bind fun x10 => (F_r09_Set x8 5 x9 x10).bind fun x11 => some x11 else (bif (decide (a1.Kind = 18)) then (F_r09_None).bind fun x12 => (F_r02_Low 13).bind fun x13 => (F_r09_Set x12 5 (⟨0, 0⟩ : Wide) x13).bind fun x14 => (F_r02_Low 3).bind fun x16 => (F_r09_Set x14 6 (⟨0, 0⟩ : Wide) x16).bind fun x17 => some x17 else (F_r09_None).bind fun x18 => some x18)))
theorem c_r28_Rewrite (a1 : Action) (r : (Vector Tern 24)) (h : F_r28_Rewrite a1 = some r) : PCon Tryz.prog 272 [rd kAction a1] (rd (karr 24 kTern) r) := by
  refine PCon.of (Con.intro0 Tryz.func272 rfl Tryz.ntmps272 rfl fun w H => ?_)
  unfold F_r28_Rewrite at h
  refine SR <| Ct rfl (op_box 2 rfl rfl (vt rfl)) ?_
  rintro _ ⟨g2, rfl⟩
  refine Ct rfl (op_alloc 3 rfl rfl zr101) ?_
  rintro _ ⟨g3, rfl⟩
  refine Nl <| AW.seq <| SR <| FdA lAction_0 fl121_0 rfl <| Ld ty3 2 rfl <| Nl <| AW.block <| SR <| Ac (op_eql rfl rfl (vt rfl) (vk rfl)) rfl <| As rfl <| Nl <| Cn rfl (fun hc => ?_) (fun hc => ?_)
  · have h := cond_t hc h
    refine AW.seq ?_
    obtain ⟨x4, hx4, h⟩ := bsome h
    refine Rg <| FdA lAction_5 fl121_5 rfl <| Ld ty119 2 rfl <| Cl [10] (c_r10_Tern _ _ hx4) e271 rfl <| Ct rfl (op_alloc 4 rfl rfl zr85) ?_
    rintro _ ⟨g5, rfl⟩
    refine Sto ty85 4 rfl <| Nl <| AW.seq ?_
    obtain ⟨x6, hx6, h⟩ := bsome h
    obtain ⟨x7, hx7, h⟩ := bsome h
    refine AW.regionAny [⟨[], [12], [], []⟩, ⟨[1], [13], [], []⟩, ⟨[13], [14], [], []⟩, ⟨[14], [15], [2], []⟩, ⟨[3], [16], [], []⟩, ⟨[16], [17], [4], []⟩, ⟨[3], [18], [], []⟩, ⟨[18], [19], [4], []⟩, ⟨[12, 15, 17, 19], [20], [], []⟩, ⟨[2, 20], [], [3], [3]⟩] mixed (by kernel_rfl) <| SCl [] (c_r09_None _ hx6) e80 rfl <| SFd lAction_5 fl121_5 rfl <| SFd lOxm_0 fl119_0 rfl <| SLd ty3 2 rfl <| SFd lTern_0 fl85_0 rfl <| SLd ty42 4 rfl <| SFd lTern_1 fl85_1 rfl <| SLd ty42 4 rfl <| SCl [12, 15, 17, 19] (c_r09_Set _ _ _ _ _ hx7) e154 rfl <| SSt ty101 3 rfl <| AW.ret ?_
    obtain rfl := si h
    exact ret1 Tryz.results272 rfl (out_cell rfl (i := 3) rfl ty101)
  · have h := cond_f hc h
    refine SR <| Ac (op_eql rfl rfl (vt rfl) (vk rfl)) rfl <| As rfl <| Nl <| Cn rfl (fun hc => ?_) (fun hc => ?_)
    · have h := cond_t hc h
      refine AW.seq ?_
      obtain ⟨x8, hx8, h⟩ := bsome h
      obtain ⟨x9, hx9, h⟩ := bsome h
      obtain ⟨x10, hx10, h⟩ := bsome h
      obtain ⟨x11, hx11, h⟩ := bsome h
      refine Rg <| Cl [] (c_r09_None _ hx8) e80 rfl <| Ac (op_call (xs := [.const (Value.int IntKind.i64 12)]) (c_r02_Bit _ _ hx9) e309 rfl rfl ⟨vk rfl, trivial⟩) rfl <| Ac (op_call (xs := [.const (Value.int IntKind.i64 12)]) (c_r02_Bit _ _ hx10) e309 rfl rfl ⟨vk rfl, trivial⟩) rfl <| Ac (op_call (xs := [.tmp 23, .const (Value.int IntKind.i64 5), .tmp 24, .tmp 25]) (c_r09_Set _ _ _ _ _ hx11) e154 rfl rfl ⟨vt rfl, vk rfl, vt rfl, vt rfl, trivial⟩) rfl <| Sto ty101 3 rfl <| Nl <| AW.ret ?_
      obtain rfl := si h
      exact ret1 Tryz.results272 rfl (out_cell rfl (i := 3) rfl ty101)
    · have h := cond_f hc h
      refine SR <| Ac (op_eql rfl rfl (vt rfl) (vk rfl)) rfl <| As rfl <| Nl <| Cn rfl (fun hc => ?_) (fun hc => ?_)
      · have h := cond_t hc h
        refine AW.seq ?_
        obtain ⟨x12, hx12, h⟩ := bsome h
        obtain ⟨x13, hx13, h⟩ := bsome h
        obtain ⟨x14, hx14, h⟩ := bsome h
        refine Rg <| Cl [] (c_r09_None _ hx12) e80 rfl <| Ac (op_build (ps := []) (x := (⟨0, 0⟩ : Wide)) rfl rfl rfl (by kernel_rfl) zr42 rfl) rfl <| Ac (op_call (xs := [.const (Value.int IntKind.i64 13)]) (c_r02_Low _ _ hx13) e307 rfl rfl ⟨vk rfl, trivial⟩) rfl <| Ac (op_call (xs := [.tmp 29, .const (Value.int IntKind.i64 5), .tmp 30, .tmp 31]) (c_r09_Set _ _ _ _ _ hx14) e154 rfl rfl ⟨vt rfl, vk rfl, vt rfl, vt rfl, trivial⟩) rfl <| Ct rfl (op_alloc 5 rfl rfl zr101) ?_
        rintro _ ⟨g15, rfl⟩
        refine Sto ty101 5 rfl <| Nl <| AW.seq ?_
        obtain ⟨x16, hx16, h⟩ := bsome h
        obtain ⟨x17, hx17, h⟩ := bsome h
        refine AW.regionAny [⟨[4], [33], [5], []⟩, ⟨[], [34], [], []⟩, ⟨[], [35], [], []⟩, ⟨[33, 34, 35], [36], [], []⟩, ⟨[2, 36], [], [3], [3]⟩] mixed (by kernel_rfl) <| SLd ty101 5 rfl <| Sc (lo [] [] rfl fun S hs hr => op_build (ps := []) (x := (⟨0, 0⟩ : Wide)) rfl rfl rfl (by kernel_rfl) zr42 rfl) rfl <| Sc (lo [] [] rfl fun S hs hr => op_call (xs := [.const (Value.int IntKind.i64 3)]) (c_r02_Low _ _ hx16) e307 rfl rfl ⟨vk rfl, trivial⟩) rfl <| Sc (lo [33, 34, 35] [] rfl fun S hs hr => op_call (xs := [.tmp 33, .const (Value.int IntKind.i64 6), .tmp 34, .tmp 35]) (c_r09_Set _ _ _ _ _ hx17) e154 rfl rfl ⟨vt ((hs 33 rfl).trans rfl), vk rfl, vt ((hs 34 rfl).trans rfl), vt ((hs 35 rfl).trans rfl), trivial⟩) rfl <| SSt ty101 3 rfl <| AW.ret ?_
        obtain rfl := si h
        exact ret1 Tryz.results272 rfl (out_cell rfl (i := 3) rfl ty101)
      · have h := cond_f hc h
        refine AW.skip <| AW.seq ?_
        obtain ⟨x18, hx18, h⟩ := bsome h
        refine Rg <| Cl [] (c_r09_None _ hx18) e80 rfl <| Sto ty101 3 rfl <| Nl <| AW.ret ?_
        obtain rfl := si h
        exact ret1 Tryz.results272 rfl (out_cell rfl (i := 3) rfl ty101)
def F_r09_Apply_l1 (r1 : (Vector Tern 24)) : Nat → (Vector Wide 24) → Int → Option (Vector Wide 24)
  | 0, _, _ => none
  | m10 + 1, b8, f9 => (bif (decide (f9 < 24)) then (chk 24 f9).bind fun j11 => (chk 24 f9).bind fun j12 => (F_r02_Less (Vector.get b8 j11) ((Vector.get r1 j12).Mask)).bind fun x13 => (chk 24 f9).bind fun j14 => (chk 24 f9).bind fun j15 => (F_r02_And ((Vector.get r1 j14).Value) ((Vector.get r1 j15).Mask)).bind fun x16 => (F_r02_Or x13 x16).bind fun x17 => (chk 24 f9).bind fun j18 => (F_r09_Apply_l1 r1 m10) (Vector.set b8 j18.1 x17 j18.2) (IntKind.i64.wrap (f9 + 1)) else some b8)
def F_r09_Apply (r1 : (Vector Tern 24)) (h2 : (Vector Wide 24)) : Option (Vector Wide 24) :=
  F_r09_Apply_l1 r1 (((24 : Int) - 0).toNat + 1) h2 0
theorem c_r09_Apply (r1 : (Vector Tern 24)) (h2 : (Vector Wide 24)) (r : (Vector Wide 24)) (h : F_r09_Apply r1 h2 = some r) : PCon Tryz.prog 119 [rd (karr 24 kTern) r1, rd (karr 24 kWide) h2] (rd (karr 24 kWide) r) := by
  refine PCon.of (Con.intro0 Tryz.func119 rfl Tryz.ntmps119 rfl fun w H => ?_)
  unfold F_r09_Apply at h
  refine SR <| Ct rfl (op_box 3 rfl rfl (vt rfl)) ?_
  rintro _ ⟨g3, rfl⟩
  refine Ct rfl (op_box 4 rfl rfl (vt rfl)) ?_
  rintro _ ⟨g4, rfl⟩
  refine Ct rfl (op_alloc 5 rfl rfl zr44) ?_
  rintro _ ⟨g5, rfl⟩
  refine Nl <| AW.seq <| SR <| Ak rfl <| Nl <| AW.block <| AW.loopG (d := []) (ν := Nat × (Vector Wide 24) × Int) (fun n => True ∧ F_r09_Apply_l1 r1 n.1 n.2.1 n.2.2 = some r) (fun n => n.1) (fun n => [(2, ptrL g3 (Lens.id (karr 24 kTern))), (3, ptrL g4 (Lens.id (karr 24 kWide))), (4, ptrL g5 (Lens.id (karr 24 kWide))), (5, rd (kint .i64) n.2.2)]) (fun n => [(3, Blk g3 101 (karr 24 kTern) r1), (4, Blk g4 44 (karr 24 kWide) n.2.1), (5, Blk g5 44 (karr 24 kWide) (Vector.replicate 24 zWide))]) ((((24 : Int) - 0).toNat + 1), h2, 0) ⟨trivial, h⟩ ⟨rfl, ⟨rfl, rfl, rfl, rfl, trivial⟩, ⟨rfl, rfl, rfl, trivial⟩⟩ ?_
  rintro ⟨m10, b8, f9⟩ ⟨hsf1, h⟩
  change True at hsf1
  change F_r09_Apply_l1 r1 m10 b8 f9 = some r at h
  change AW _ _ _ ⟨slots [(2, ptrL g3 (Lens.id (karr 24 kTern))), (3, ptrL g4 (Lens.id (karr 24 kWide))), (4, ptrL g5 (Lens.id (karr 24 kWide))), (5, rd (kint .i64) f9)], ress [(3, Blk g3 101 (karr 24 kTern) r1), (4, Blk g4 44 (karr 24 kWide) b8), (5, Blk g5 44 (karr 24 kWide) (Vector.replicate 24 zWide))], _⟩
  cases m10 with
  | zero => cases h
  | succ m10 =>
    unfold F_r09_Apply_l1 at h
    generalize hgo1 : F_r09_Apply_l1 r1 m10 = go1 at h
    refine AW.seq <| SR <| Md rfl <| Ac (op_lss rfl rfl (vt rfl) (vk rfl)) rfl <| Nl <| Cn rfl (fun hc => ?_) (fun hc => ?_)
    · have h := cond_t hc h
      refine AW.skip <| AW.seq <| AW.block ?_
      obtain ⟨j11, hj11, h⟩ := bsome h
      obtain ⟨j12, hj12, h⟩ := bsome h
      obtain ⟨x13, hx13, h⟩ := bsome h
      obtain ⟨j14, hj14, h⟩ := bsome h
      obtain ⟨j15, hj15, h⟩ := bsome h
      obtain ⟨x16, hx16, h⟩ := bsome h
      obtain ⟨x17, hx17, h⟩ := bsome h
      obtain ⟨j18, hj18, h⟩ := bsome h
      refine AW.regionAny [⟨[5], [10], [], []⟩, ⟨[5], [11], [], []⟩, ⟨[3, 11], [12], [], []⟩, ⟨[12], [13], [4], []⟩, ⟨[5], [14], [], []⟩, ⟨[2, 14], [15], [], []⟩, ⟨[15], [16], [], []⟩, ⟨[16], [17], [3], []⟩, ⟨[13, 17], [18], [], []⟩, ⟨[5], [19], [], []⟩, ⟨[2, 19], [20], [], []⟩, ⟨[20], [21], [], []⟩, ⟨[21], [22], [3], []⟩, ⟨[5], [23], [], []⟩, ⟨[2, 23], [24], [], []⟩, ⟨[24], [25], [], []⟩, ⟨[25], [26], [3], []⟩, ⟨[22, 26], [27], [], []⟩, ⟨[18, 27], [28], [], []⟩, ⟨[3, 10], [29], [], []⟩, ⟨[29, 28], [], [4], [4]⟩] mixed (by kernel_rfl) <| SMd rfl <| SMd rfl <| Sc (lo [3, 11] [] rfl fun S hs hr => op_index' rfl rfl ar44 (vh hs 3 rfl rfl) (vh hs 11 rfl rfl) hj11) rfl <| SLd ty42 4 rfl <| SMd rfl <| Sc (lo [2, 14] [] rfl fun S hs hr => op_index' rfl rfl ar101 (vh hs 2 rfl rfl) (vh hs 14 rfl rfl) hj12) rfl <| SFd lTern_1 fl85_1 rfl <| SLd ty42 3 rfl <| SCl [13, 17] (c_r02_Less _ _ _ hx13) e188 rfl <| SMd rfl <| Sc (lo [2, 19] [] rfl fun S hs hr => op_index' rfl rfl ar101 (vh hs 2 rfl rfl) (vh hs 19 rfl rfl) hj14) rfl <| SFd lTern_0 fl85_0 rfl <| SLd ty42 3 rfl <| SMd rfl <| Sc (lo [2, 23] [] rfl fun S hs hr => op_index' rfl rfl ar101 (vh hs 2 rfl rfl) (vh hs 23 rfl rfl) hj15) rfl <| SFd lTern_1 fl85_1 rfl <| SLd ty42 3 rfl <| SCl [22, 26] (c_r02_And _ _ _ hx16) e189 rfl <| SCl [18, 27] (c_r02_Or _ _ _ hx17) e187 rfl <| Sc (lo [3, 10] [] rfl fun S hs hr => op_index' rfl rfl ar44 (vh hs 3 rfl rfl) (vh hs 10 rfl rfl) hj18) rfl <| SSt ty42 4 rfl <| Rg <| Md rfl <| Ac (op_add rfl rfl (vt rfl) (vk rfl)) rfl <| As rfl <| Nl ?_
      subst hgo1
      exact ⟨(m10, (Vector.set b8 j18.1 x17 j18.2), (IntKind.i64.wrap (f9 + 1))), Nat.lt_succ_self _, ⟨trivial, h⟩, ⟨rfl, ⟨rfl, rfl, rfl, rfl, trivial⟩, ⟨rfl, rfl, rfl, trivial⟩⟩⟩
    · have h := cond_f hc h
      refine AW.exit <| SR <| Ld ty44 4 rfl <| Sto ty44 5 rfl <| Nl <| AW.ret ?_
      obtain rfl := si h
      exact ret1 Tryz.results119 rfl (out_cell rfl (i := 5) rfl ty44)
end Go.Proofs.YtknpgojdkobgjaaGreat.W
