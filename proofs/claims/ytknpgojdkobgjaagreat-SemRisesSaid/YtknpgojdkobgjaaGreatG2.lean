/- A part of the proof. -/
import Derived.Test.YtknpgojdkobgjaaGreatG1
set_option linter.unusedVariables false
set_option maxRecDepth 4000
set_option linter.unusedSimpArgs false
namespace Go.Proofs.YtknpgojdkobgjaaGreat.W
open Go Go.Wb
theorem e212 : Ent Tryz.prog 212 := Ent.mk Tryz.func212 rfl rfl
theorem e204 : Ent Tryz.prog 204 := Ent.mk Tryz.func204 rfl rfl
theorem e148 : Ent Tryz.prog 148 := Ent.mk Tryz.func148 rfl rfl
theorem e34 : Ent Tryz.prog 34 := Ent.mk Tryz.func34 rfl rfl
theorem e147 : Ent Tryz.prog 147 := Ent.mk Tryz.func147 rfl rfl
theorem e86 : Ent Tryz.prog 86 := Ent.mk Tryz.func86 rfl rfl
theorem e29 : Ent Tryz.prog 29 := Ent.mk Tryz.func29 rfl rfl
theorem e32 : Ent Tryz.prog 32 := Ent.mk Tryz.func32 rfl rfl
theorem e31 : Ent Tryz.prog 31 := Ent.mk Tryz.func31 rfl rfl
theorem e21 : Ent Tryz.prog 21 := Ent.mk Tryz.func21 rfl rfl
theorem e27 : Ent Tryz.prog 27 := Ent.mk Tryz.func27 rfl rfl
def F_sem_packet_act (p1 : sem_packet) (l5 : (List Action)) : Option sem_packet :=
  (F_exec_Do p1.Switch.Groups p1.env l5 p1.header).bind fun x6 => (appd p1.out x6.1).bind fun l8 => some (⟨p1.Switch, p1.env, x6.2, p1.set, l8, p1.path⟩ : sem_packet)
theorem c_sem_packet_act (g2 gT : Nat) (p1 : sem_packet) (l5 : (List Action)) (r : sem_packet) (h : F_sem_packet_act p1 l5 = some r) : Con Tryz.prog 148 [ptrL g2 (Lens.id ksem_packet_o4_5), rd (ksl kAction) l5] (Star (fun v2 => BoxF g2 gT ksem_packet_o4_5 (fun v => (⟨p1.Switch, p1.env, p1.header, p1.set, v, v2⟩ : sem_packet_o4_5)) 71 kOut p1.out) 51 kPlace p1.path) (fun _ : Unit => top) (fun _ => Star (fun v2 => BoxF g2 gT ksem_packet_o4_5 (fun v => (⟨r.Switch, r.env, r.header, r.set, v, v2⟩ : sem_packet_o4_5)) 71 kOut r.out) 51 kPlace r.path) := by
  refine Con.intro Tryz.func148 rfl Tryz.ntmps148 rfl fun w H X => ?_
  unfold F_sem_packet_act at h
  refine AW.unboxS 0 2005 (by decide) rfl rfl fun v4 => AW.unboxF 0 2004 (by decide) rfl rfl fun v3 => AW.seq ?_
  obtain ⟨x6, hx6, h⟩ := bsome h
  refine AW.regionAny [⟨[0], [7], [], []⟩, ⟨[7], [8], [], []⟩, ⟨[8], [9], [], []⟩, ⟨[9], [10], [], []⟩, ⟨[10], [11], [0], []⟩, ⟨[0], [12], [], []⟩, ⟨[12], [13], [], []⟩, ⟨[13], [14], [], []⟩, ⟨[14], [15], [0], []⟩, ⟨[1], [16], [], []⟩, ⟨[0], [17], [], []⟩, ⟨[17], [18], [], []⟩, ⟨[18], [19], [], []⟩, ⟨[19], [20], [0], []⟩, ⟨[11, 15, 16, 20], [21], [], []⟩, ⟨[21], [6], [], []⟩, ⟨[6], [22], [], []⟩, ⟨[6], [23], [], []⟩, ⟨[], [5], [], []⟩, ⟨[22], [4], [], []⟩, ⟨[5, 23], [5], [], []⟩] mixed (by kernel_rfl) <| SMp rfl <| SNc rfl <| SFd lsem_packet_o4_5_0 flv144_0_4_5 rfl <| SFd lSwitch_1 fl26_1 rfl <| SLd ty24 0 rfl <| SMp rfl <| SNc rfl <| SFd lsem_packet_o4_5_1 flv144_1_4_5 rfl <| SLd ty39 0 rfl <| SMd rfl <| SMp rfl <| SNc rfl <| SFd lsem_packet_o4_5_2 flv144_2_4_5 rfl <| SLd ty44 0 rfl <| SCl [11, 15, 16, 20] (c_exec_Do _ _ _ _ _ hx6) e212 rfl <| Sc (lo [21] [] rfl fun S hs hr => op_move (A := tup2 (rd (ksl kOut) x6.1) (rd (karr 24 kWide) x6.2)) rfl rfl (vh hs 21 rfl rfl)) rfl <| Sc (lo [6] [] rfl fun S hs hr => op_fst rfl rfl (vh hs 6 rfl rfl)) rfl <| Sc (lo [6] [] rfl fun S hs hr => op_snd rfl rfl (vh hs 6 rfl rfl)) rfl <| Sc (locs (us := [(5, ownP 44 (karr 24 kWide) (Vector.replicate 24 zWide))]) (ur := []) [] [] rfl fun S hs hr => op_allocO rfl rfl rfl zr44) rfl <| SAs rfl <| Sc (locs (us := [(5, ownP 44 (karr 24 kWide) x6.2)]) (ur := []) [5, 23] [] rfl fun S hs hr => op_storeO rfl rfl ty44 ((hs 5 rfl).trans rfl) (vh hs 23 rfl rfl)) rfl <| AW.unpackP 5 6 rfl rfl fun g7 => ?_
  obtain ⟨l8, hl8, h⟩ := bsome h
  refine AW.endT <| AW.regionAny [⟨[0], [24], [], []⟩, ⟨[0], [25], [], []⟩, ⟨[0], [26], [], []⟩, ⟨[26], [27], [], []⟩, ⟨[27], [28], [], []⟩, ⟨[28], [29], [0], []⟩, ⟨[4], [30], [], []⟩, ⟨[29, 30], [31], [2004], [2004]⟩, ⟨[5], [32], [6], []⟩, ⟨[24], [33], [], []⟩, ⟨[33], [34], [], []⟩, ⟨[34, 31], [31], [0], [0]⟩, ⟨[25], [35], [], []⟩, ⟨[35], [36], [], []⟩, ⟨[36, 32], [], [0], [0]⟩] mixed (by kernel_rfl) <| SMp rfl <| SMp rfl <| SMp rfl <| SNc rfl <| SFd lsem_packet_o4_5_4 flv144_4_4_5 rfl <| Sc (lo [28] [0] rfl fun S hs hr => op_loadv v3 rfl rfl tyr46 (vh hs 28 rfl rfl) (i := 0) ((hr 0 rfl).trans rfl) rfl) rfl <| SMd rfl <| Sc (locs (us := [(31, ownR 71 kOut l8)]) (ur := [(2004, emp)]) [29, 30] [2004] rfl fun S hs hr => op_appendO 2004 hl8 rfl rfl rfl el46 (vh hs 29 rfl rfl) ((hr 2004 rfl).trans rfl) (vh hs 30 rfl rfl)) rfl <| SLd ty44 6 rfl <| SNc rfl <| SFd lsem_packet_o4_5_4 flv144_4_4_5 rfl <| Sc (locs (us := [(31, top)]) (ur := [(0, BoxF g2 gT ksem_packet_o4_5 (fun v => ((Lens.comp (Lens.id ksem_packet_o4_5) lsem_packet_o4_5_4)).set (⟨p1.Switch, p1.env, p1.header, p1.set, v3, v4⟩ : sem_packet_o4_5) v) 71 kOut l8)]) [34, 31] [0] rfl fun S hs hr => op_storeR rfl rfl tyr46 (vh hs 34 rfl rfl) ((hr 0 rfl).trans rfl) ((hs 31 rfl).trans rfl)) rfl <| SNc rfl <| SFd lsem_packet_o4_5_2 flv144_2_4_5 rfl <| Sc (locr [36, 32] [0] rfl fun S hs hr => op_storeF rfl rfl ty44 (vh hs 36 rfl rfl) (i := 0) ((hr 0 rfl).trans rfl) (vh hs 32 rfl rfl)) rfl <| EndT.unboxF 0 2004 (by decide) rfl rfl fun v9 => EndT.done ?_
  obtain rfl := si h
  exact RetOK.turn (Turn.packF 0 2004 (fun v => (⟨p1.Switch, p1.env, x6.2, p1.set, v, v4⟩ : sem_packet_o4_5)) (by decide) rfl rfl) (RetOK.turn (Turn.packS 0 2005 (fun v2 => BoxF g2 gT ksem_packet_o4_5 (fun v => (⟨p1.Switch, p1.env, x6.2, p1.set, v, v2⟩ : sem_packet_o4_5)) 71 kOut l8) (by decide) rfl rfl) (ret0Y (i := 0) Tryz.results148 rfl rfl))
def F_sem_packet_follow_j4 (l6 : (List Inst)) (at5 : Int) (l7 : (List Out)) (l9 : (List Place)) (b23 : Switch) (b24 : Env) (b25 : (Vector Wide 24)) (b26 : (List Action)) : Option (Int × Bool × sem_packet) :=
  (F_inst_Of l6 1).bind fun x27 => some (x27.1.Table, ((x27.2 && (decide (x27.1.Table > at5))) && (decide (x27.1.Table < 4))), (⟨b23, b24, b25, b26, l7, l9⟩ : sem_packet))
def F_sem_packet_follow_j3 (l6 : (List Inst)) (at5 : Int) (l7 : (List Out)) (l9 : (List Place)) (b19 : Switch) (b20 : Env) (b21 : (Vector Wide 24)) (b22 : (List Action)) : Option (Int × Bool × sem_packet) :=
  (F_inst_Of l6 2).bind fun x29 => (bif x29.2 then (F_rewrite_None).bind fun x31 => (F_rewrite_Set x31 1 x29.1.Value x29.1.Mask).bind fun x32 => (F_rewrite_Apply x32 b21).bind fun x33 => F_sem_packet_follow_j4 l6 at5 l7 l9 b19 b20 x33 b22 else F_sem_packet_follow_j4 l6 at5 l7 l9 b19 b20 b21 b22)
def F_sem_packet_follow_j2 (l6 : (List Inst)) (at5 : Int) (l7 : (List Out)) (l9 : (List Place)) (b15 : Switch) (b16 : Env) (b17 : (Vector Wide 24)) (b18 : (List Action)) : Option (Int × Bool × sem_packet) :=
  (F_inst_Of l6 3).bind fun x34 => (bif x34.2 then (F_aset_Write b18 x34.1.Acts).bind fun x36 => F_sem_packet_follow_j3 l6 at5 l7 l9 b15 b16 b17 x36 else F_sem_packet_follow_j3 l6 at5 l7 l9 b15 b16 b17 b18)
def F_sem_packet_follow_j1 (l6 : (List Inst)) (at5 : Int) (l7 : (List Out)) (l9 : (List Place)) (b11 : Switch) (b12 : Env) (b13 : (Vector Wide 24)) (b14 : (List Action)) : Option (Int × Bool × sem_packet) :=
  (F_inst_Of l6 5).bind fun x37 => (bif x37.2 then F_sem_packet_follow_j2 l6 at5 l7 l9 b11 b12 b13 [] else F_sem_packet_follow_j2 l6 at5 l7 l9 b11 b12 b13 b14)
def F_sem_packet_follow (p1 : sem_packet) (at5 : Int) (l6 : (List Inst)) : Option (Int × Bool × sem_packet) :=
  (F_inst_Of l6 4).bind fun x39 => (bif x39.2 then (F_sem_packet_act (⟨p1.Switch, p1.env, p1.header, p1.set, p1.out, p1.path⟩ : sem_packet) x39.1.Acts).bind fun b41 => F_sem_packet_follow_j1 l6 at5 b41.out b41.path b41.Switch b41.env b41.header b41.set else F_sem_packet_follow_j1 l6 at5 p1.out p1.path p1.Switch p1.env p1.header p1.set)
theorem c_sem_packet_follow (g2 gT : Nat) (p1 : sem_packet) (at5 : Int) (l6 : (List Inst)) (r : (Int × Bool × sem_packet)) (h : F_sem_packet_follow p1 at5 l6 = some r) : Con Tryz.prog 147 [ptrL g2 (Lens.id ksem_packet_o4_5), rd (kint .i64) at5, rd (ksl kInst) l6] (Star (fun v2 => BoxF g2 gT ksem_packet_o4_5 (fun v => (⟨p1.Switch, p1.env, p1.header, p1.set, v, v2⟩ : sem_packet_o4_5)) 71 kOut p1.out) 51 kPlace p1.path) (fun _ : Unit => tup2 (rd (kint .i64) r.1) (rd kbool r.2.1)) (fun _ => Star (fun v2 => BoxF g2 gT ksem_packet_o4_5 (fun v => (⟨r.2.2.Switch, r.2.2.env, r.2.2.header, r.2.2.set, v, v2⟩ : sem_packet_o4_5)) 71 kOut r.2.2.out) 51 kPlace r.2.2.path) := by
  refine Con.intro Tryz.func147 rfl Tryz.ntmps147 rfl fun w H X => ?_
  unfold F_sem_packet_follow at h
  refine AW.unboxS 0 2005 (by decide) rfl rfl fun v4 => AW.unboxF 0 2004 (by decide) rfl rfl fun v3 => SR <| Ak rfl <| Ab rfl <| Nl ?_
  refine AW.join (d := []) (ν := (List Out) × (List Place) × Switch × Env × (Vector Wide 24) × (List Action) × Value × Value) (fun n => F_sem_packet_follow_j1 l6 at5 n.1 n.2.1 n.2.2.1 n.2.2.2.1 n.2.2.2.2.1 n.2.2.2.2.2.1 = some r) (fun n => [(0, ptrL g2 (Lens.id ksem_packet_o4_5)), (1, rd (kint .i64) at5), (2, rd (ksl kInst) l6)]) (fun n => [(0, Blk g2 gT ksem_packet_o4_5 (⟨n.2.2.1, n.2.2.2.1, n.2.2.2.2.1, n.2.2.2.2.2.1, n.2.2.2.2.2.2.1, n.2.2.2.2.2.2.2⟩ : sem_packet_o4_5)), (2004, Row n.2.2.2.2.2.2.1 71 kOut n.1), (2005, Row n.2.2.2.2.2.2.2 51 kPlace n.2.1)]) ?hx1 ?hy1
  case hy1 =>
    rintro ⟨l7, l9, b11, b12, b13, b14, v8, v10⟩ h
    unfold F_sem_packet_follow_j1 at h
    change AW _ _ _ ⟨slots [(0, ptrL g2 (Lens.id ksem_packet_o4_5)), (1, rd (kint .i64) at5), (2, rd (ksl kInst) l6)], ress [(0, Blk g2 gT ksem_packet_o4_5 (⟨b11, b12, b13, b14, v8, v10⟩ : sem_packet_o4_5)), (2004, Row v8 71 kOut l7), (2005, Row v10 51 kPlace l9)], _⟩
    refine AW.join (d := []) (ν := Switch × Env × (Vector Wide 24) × (List Action)) (fun n => F_sem_packet_follow_j2 l6 at5 l7 l9 n.1 n.2.1 n.2.2.1 n.2.2.2 = some r) (fun n => [(0, ptrL g2 (Lens.id ksem_packet_o4_5)), (1, rd (kint .i64) at5), (2, rd (ksl kInst) l6)]) (fun n => [(0, Blk g2 gT ksem_packet_o4_5 (⟨n.1, n.2.1, n.2.2.1, n.2.2.2, v8, v10⟩ : sem_packet_o4_5)), (2004, Row v8 71 kOut l7), (2005, Row v10 51 kPlace l9)]) ?hx2 ?hy2
    case hy2 =>
      rintro ⟨b15, b16, b17, b18⟩ h
      unfold F_sem_packet_follow_j2 at h
      change AW _ _ _ ⟨slots [(0, ptrL g2 (Lens.id ksem_packet_o4_5)), (1, rd (kint .i64) at5), (2, rd (ksl kInst) l6)], ress [(0, Blk g2 gT ksem_packet_o4_5 (⟨b15, b16, b17, b18, v8, v10⟩ : sem_packet_o4_5)), (2004, Row v8 71 kOut l7), (2005, Row v10 51 kPlace l9)], _⟩
      refine AW.join (d := []) (ν := Switch × Env × (Vector Wide 24) × (List Action)) (fun n => F_sem_packet_follow_j3 l6 at5 l7 l9 n.1 n.2.1 n.2.2.1 n.2.2.2 = some r) (fun n => [(0, ptrL g2 (Lens.id ksem_packet_o4_5)), (1, rd (kint .i64) at5), (2, rd (ksl kInst) l6)]) (fun n => [(0, Blk g2 gT ksem_packet_o4_5 (⟨n.1, n.2.1, n.2.2.1, n.2.2.2, v8, v10⟩ : sem_packet_o4_5)), (2004, Row v8 71 kOut l7), (2005, Row v10 51 kPlace l9)]) ?hx3 ?hy3
      case hy3 =>
        rintro ⟨b19, b20, b21, b22⟩ h
        unfold F_sem_packet_follow_j3 at h
        change AW _ _ _ ⟨slots [(0, ptrL g2 (Lens.id ksem_packet_o4_5)), (1, rd (kint .i64) at5), (2, rd (ksl kInst) l6)], ress [(0, Blk g2 gT ksem_packet_o4_5 (⟨b19, b20, b21, b22, v8, v10⟩ : sem_packet_o4_5)), (2004, Row v8 71 kOut l7), (2005, Row v10 51 kPlace l9)], _⟩
        refine AW.join (d := []) (ν := Switch × Env × (Vector Wide 24) × (List Action)) (fun n => F_sem_packet_follow_j4 l6 at5 l7 l9 n.1 n.2.1 n.2.2.1 n.2.2.2 = some r) (fun n => [(1, rd (kint .i64) at5), (2, rd (ksl kInst) l6)]) (fun n => [(0, Blk g2 gT ksem_packet_o4_5 (⟨n.1, n.2.1, n.2.2.1, n.2.2.2, v8, v10⟩ : sem_packet_o4_5)), (2004, Row v8 71 kOut l7), (2005, Row v10 51 kPlace l9)]) ?hx4 ?hy4
        case hy4 =>
          rintro ⟨b23, b24, b25, b26⟩ h
          unfold F_sem_packet_follow_j4 at h
          change AW _ _ _ ⟨slots [(1, rd (kint .i64) at5), (2, rd (ksl kInst) l6)], ress [(0, Blk g2 gT ksem_packet_o4_5 (⟨b23, b24, b25, b26, v8, v10⟩ : sem_packet_o4_5)), (2004, Row v8 71 kOut l7), (2005, Row v10 51 kPlace l9)], _⟩
          refine AW.seq ?_
          obtain ⟨x27, hx27, h⟩ := bsome h
          refine Rg <| Md rfl <| Ac (op_call (xs := [.tmp 74, .const (Value.int IntKind.i64 1)]) (c_inst_Of _ _ _ hx27) e204 rfl rfl ⟨vt rfl, vk rfl, trivial⟩) rfl <| Mt2 rfl <| Ac (op_fst rfl rfl (vt rfl)) rfl <| Ac (op_snd rfl rfl (vt rfl)) rfl <| Ct rfl (op_alloc 17 rfl rfl zr124) ?_
          rintro _ ⟨g28, rfl⟩
          refine Sto ty124 17 rfl <| As rfl <| Nl <| AW.seq <| AW.regionAny [⟨[16], [78], [], []⟩, ⟨[78], [79], [17], []⟩, ⟨[17], [80], [], []⟩, ⟨[80], [81], [], []⟩, ⟨[16, 81], [82], [], []⟩, ⟨[82, 81], [83], [17], []⟩, ⟨[1, 81], [84], [], []⟩, ⟨[83, 84, 81], [85], [], []⟩, ⟨[85, 81], [86], [], []⟩, ⟨[86], [87], [], []⟩, ⟨[16, 87], [88], [], []⟩, ⟨[88, 87], [89], [17], []⟩, ⟨[89, 87], [90], [], []⟩, ⟨[90, 87], [91], [], []⟩, ⟨[79], [6], [], []⟩, ⟨[91], [7], [], []⟩] mixed (by kernel_rfl) <| SFd lInst_1 fl124_1 rfl <| SLd ty3 17 rfl <| SMd rfl <| SMd rfl <| Sc (lg [16, 81] [] rfl fun hq S hs hr => op_field lInst_1 rfl rfl fl124_1 (vh hs 16 rfl rfl)) rfl <| Sc (lg [82, 81] [17] rfl fun hq S hs hr => op_load rfl rfl ty3 (vgt ((hs 82 rfl).trans rfl) hq) (i := 17) ((hr 17 rfl).trans rfl)) rfl <| Sc (lg [1, 81] [] rfl fun hq S hs hr => op_move (A := rd (kint .i64) at5) rfl rfl (vh hs 1 rfl rfl)) rfl <| Sc (lg [83, 84, 81] [] rfl fun hq S hs hr => op_gtr rfl rfl (vgt ((hs 83 rfl).trans rfl) hq) (vgt ((hs 84 rfl).trans rfl) hq)) rfl <| Sc (lo [85, 81] [] rfl fun S hs hr => op_all rfl rfl (vh hs 81 rfl rfl) (vh hs 85 rfl rfl)) rfl <| SMd rfl <| Sc (lg [16, 87] [] rfl fun hq S hs hr => op_field lInst_1 rfl rfl fl124_1 (vh hs 16 rfl rfl)) rfl <| Sc (lg [88, 87] [17] rfl fun hq S hs hr => op_load rfl rfl ty3 (vgt ((hs 88 rfl).trans rfl) hq) (i := 17) ((hr 17 rfl).trans rfl)) rfl <| Sc (lg [89, 87] [] rfl fun hq S hs hr => op_lss rfl rfl (vgt ((hs 89 rfl).trans rfl) hq) (vk rfl)) rfl <| Sc (lo [90, 87] [] rfl fun S hs hr => op_all rfl rfl (vh hs 87 rfl rfl) (vh hs 90 rfl rfl)) rfl <| SAs rfl <| SAs rfl <| AW.ret ?_
          obtain rfl := si h
          exact RetOK.turn (Turn.packF 0 2004 (fun v => (⟨b23, b24, b25, b26, v, v10⟩ : sem_packet_o4_5)) (by decide) rfl rfl) (RetOK.turn (Turn.packS 0 2005 (fun v2 => BoxF g2 gT ksem_packet_o4_5 (fun v => (⟨b23, b24, b25, b26, v, v2⟩ : sem_packet_o4_5)) 71 kOut l7) (by decide) rfl rfl) (ret2Y (i := 0) Tryz.results147 rfl (out_tmp rfl) (out_tmp rfl) rfl))
        case hx4 =>
          refine AW.seq ?_
          obtain ⟨x29, hx29, h⟩ := bsome h
          refine Rg <| Md rfl <| Ac (op_call (xs := [.tmp 54, .const (Value.int IntKind.i64 2)]) (c_inst_Of _ _ _ hx29) e204 rfl rfl ⟨vt rfl, vk rfl, trivial⟩) rfl <| Mt2 rfl <| Ac (op_fst rfl rfl (vt rfl)) rfl <| Ac (op_snd rfl rfl (vt rfl)) rfl <| Ct rfl (op_alloc 15 rfl rfl zr124) ?_
          rintro _ ⟨g30, rfl⟩
          refine Sto ty124 15 rfl <| As rfl <| Nl <| SR <| Md rfl <| Nl <| Cn rfl (fun hc => ?_) (fun hc => ?_)
          · have h := cond_t hc h
            obtain ⟨x31, hx31, h⟩ := bsome h
            obtain ⟨x32, hx32, h⟩ := bsome h
            obtain ⟨x33, hx33, h⟩ := bsome h
            refine AW.regionAny [⟨[0], [59], [], []⟩, ⟨[], [60], [], []⟩, ⟨[14], [61], [], []⟩, ⟨[61], [62], [15], []⟩, ⟨[14], [63], [], []⟩, ⟨[63], [64], [15], []⟩, ⟨[60, 62, 64], [65], [], []⟩, ⟨[0], [66], [], []⟩, ⟨[66], [67], [], []⟩, ⟨[67], [68], [], []⟩, ⟨[68], [69], [0], []⟩, ⟨[65, 69], [70], [], []⟩, ⟨[59], [71], [], []⟩, ⟨[71], [72], [], []⟩, ⟨[72, 70], [], [0], [0]⟩] mixed (by kernel_rfl) <| SMp rfl <| SCl [] (c_rewrite_None _ hx31) e77 rfl <| SFd lInst_2 fl124_2 rfl <| SLd ty42 15 rfl <| SFd lInst_3 fl124_3 rfl <| SLd ty42 15 rfl <| Sc (lo [60, 62, 64] [] rfl fun S hs hr => op_call (xs := [.tmp 60, .const (Value.int IntKind.i64 1), .tmp 62, .tmp 64]) (c_rewrite_Set _ _ _ _ _ hx32) e207 rfl rfl ⟨vt ((hs 60 rfl).trans rfl), vk rfl, vt ((hs 62 rfl).trans rfl), vt ((hs 64 rfl).trans rfl), trivial⟩) rfl <| SMp rfl <| SNc rfl <| SFd lsem_packet_o4_5_2 flv144_2_4_5 rfl <| SLd ty44 0 rfl <| SCl [65, 69] (c_rewrite_Apply _ _ _ hx33) e109 rfl <| SNc rfl <| SFd lsem_packet_o4_5_2 flv144_2_4_5 rfl <| SSt ty44 0 rfl ?_
            exact ⟨(b19, b20, x33, b22), h, ⟨rfl, ⟨rfl, rfl, trivial⟩, ⟨rfl, rfl, rfl, trivial⟩⟩⟩
          · have h := cond_f hc h
            refine AW.skip ?_
            exact ⟨(b19, b20, b21, b22), h, ⟨rfl, ⟨rfl, rfl, trivial⟩, ⟨rfl, rfl, rfl, trivial⟩⟩⟩
      case hx3 =>
        refine AW.seq ?_
        obtain ⟨x34, hx34, h⟩ := bsome h
        refine Rg <| Md rfl <| Ac (op_call (xs := [.tmp 38, .const (Value.int IntKind.i64 3)]) (c_inst_Of _ _ _ hx34) e204 rfl rfl ⟨vt rfl, vk rfl, trivial⟩) rfl <| Mt2 rfl <| Ac (op_fst rfl rfl (vt rfl)) rfl <| Ac (op_snd rfl rfl (vt rfl)) rfl <| Ct rfl (op_alloc 13 rfl rfl zr124) ?_
        rintro _ ⟨g35, rfl⟩
        refine Sto ty124 13 rfl <| As rfl <| Nl <| SR <| Md rfl <| Nl <| Cn rfl (fun hc => ?_) (fun hc => ?_)
        · have h := cond_t hc h
          obtain ⟨x36, hx36, h⟩ := bsome h
          refine AW.regionAny [⟨[0], [43], [], []⟩, ⟨[0], [44], [], []⟩, ⟨[44], [45], [], []⟩, ⟨[45], [46], [], []⟩, ⟨[46], [47], [0], []⟩, ⟨[12], [48], [], []⟩, ⟨[48], [49], [13], []⟩, ⟨[47, 49], [50], [], []⟩, ⟨[43], [51], [], []⟩, ⟨[51], [52], [], []⟩, ⟨[52, 50], [], [0], [0]⟩] mixed (by kernel_rfl) <| SMp rfl <| SMp rfl <| SNc rfl <| SFd lsem_packet_o4_5_3 flv144_3_4_5 rfl <| SLd ty122 0 rfl <| SFd lInst_4 fl124_4 rfl <| SLd ty122 13 rfl <| SCl [47, 49] (c_aset_Write _ _ _ hx36) e206 rfl <| SNc rfl <| SFd lsem_packet_o4_5_3 flv144_3_4_5 rfl <| SSt ty122 0 rfl ?_
          exact ⟨(b15, b16, b17, x36), h, ⟨rfl, ⟨rfl, rfl, rfl, trivial⟩, ⟨rfl, rfl, rfl, trivial⟩⟩⟩
        · have h := cond_f hc h
          refine AW.skip ?_
          exact ⟨(b15, b16, b17, b18), h, ⟨rfl, ⟨rfl, rfl, rfl, trivial⟩, ⟨rfl, rfl, rfl, trivial⟩⟩⟩
    case hx2 =>
      refine AW.seq ?_
      obtain ⟨x37, hx37, h⟩ := bsome h
      refine Rg <| Md rfl <| Ac (op_call (xs := [.tmp 29, .const (Value.int IntKind.i64 5)]) (c_inst_Of _ _ _ hx37) e204 rfl rfl ⟨vt rfl, vk rfl, trivial⟩) rfl <| Mt2 rfl <| Ac (op_fst rfl rfl (vt rfl)) rfl <| Ac (op_snd rfl rfl (vt rfl)) rfl <| Ct rfl (op_alloc 11 rfl rfl zr124) ?_
      rintro _ ⟨g38, rfl⟩
      refine Sto ty124 11 rfl <| As rfl <| Nl <| SR <| Md rfl <| Nl <| Cn rfl (fun hc => ?_) (fun hc => ?_)
      · have h := cond_t hc h
        refine Rg <| Mp rfl <| Nc rfl <| FdA lsem_packet_o4_5_3 flv144_3_4_5 rfl <| Ac (op_store rfl rfl ty122 (vt rfl) (i := 0) rfl vnil) rfl <| Nl ?_
        exact ⟨(b11, b12, b13, []), h, ⟨rfl, ⟨rfl, rfl, rfl, trivial⟩, ⟨rfl, rfl, rfl, trivial⟩⟩⟩
      · have h := cond_f hc h
        refine AW.skip ?_
        exact ⟨(b11, b12, b13, b14), h, ⟨rfl, ⟨rfl, rfl, rfl, trivial⟩, ⟨rfl, rfl, rfl, trivial⟩⟩⟩
  case hx1 =>
    refine AW.seq ?_
    obtain ⟨x39, hx39, h⟩ := bsome h
    refine Rg <| Md rfl <| Ac (op_call (xs := [.tmp 19, .const (Value.int IntKind.i64 4)]) (c_inst_Of _ _ _ hx39) e204 rfl rfl ⟨vt rfl, vk rfl, trivial⟩) rfl <| Mt2 rfl <| Ac (op_fst rfl rfl (vt rfl)) rfl <| Ac (op_snd rfl rfl (vt rfl)) rfl <| Ct rfl (op_alloc 9 rfl rfl zr124) ?_
    rintro _ ⟨g40, rfl⟩
    refine Sto ty124 9 rfl <| As rfl <| Nl <| SR <| Md rfl <| Nl <| Cn rfl (fun hc => ?_) (fun hc => ?_)
    · have h := cond_t hc h
      obtain ⟨b41, hb41, h⟩ := bsome h
      refine Rg <| Mp rfl <| FdA lInst_4 fl124_4 rfl <| Ld ty122 9 rfl <| AOps.packF 0 2004 (fun v => (⟨p1.Switch, p1.env, p1.header, p1.set, v, v4⟩ : sem_packet_o4_5)) (by decide) rfl rfl <| AOps.packS 0 2005 (fun v2 => BoxF g2 gT ksem_packet_o4_5 (fun v => (⟨p1.Switch, p1.env, p1.header, p1.set, v, v2⟩ : sem_packet_o4_5)) 71 kOut p1.out) (by decide) rfl rfl <| Ct rfl (op_callR 0 (xs := [.tmp 24, .tmp 26]) (c_sem_packet_act _ _ _ _ _ hb41) e148 rfl rfl ⟨vt rfl, vt rfl, trivial⟩ rfl) ?_
      rintro _ ⟨_u, rfl⟩
      refine AOps.unboxS 0 2005 (by decide) rfl rfl fun v43 => AOps.unboxF 0 2004 (by decide) rfl rfl fun v42 => Nl ?_
      exact ⟨(b41.out, b41.path, b41.Switch, b41.env, b41.header, b41.set, v42, v43), h, ⟨rfl, ⟨rfl, rfl, rfl, trivial⟩, ⟨rfl, rfl, rfl, trivial⟩⟩⟩
    · have h := cond_f hc h
      refine AW.skip ?_
      exact ⟨(p1.out, p1.path, p1.Switch, p1.env, p1.header, p1.set, v3, v4), h, ⟨rfl, ⟨rfl, rfl, rfl, trivial⟩, ⟨rfl, rfl, rfl, trivial⟩⟩⟩
def F_sem_packet_through_l1 : Nat → (List Out) → (List Place) → Switch → Env → (Vector Wide 24) → (List Action) → Int → Option sem_packet
  | 0, _, _, _, _, _, _, _ => none
  | m23 + 1, l14, l16, b18, b19, b20, b21, at22 => (chk 4 at22).bind fun j24 => (F_first_Find (Vector.get b18.Tables j24) b20).bind fun x25 => (bif (!x25.2) then (appd l16 [(⟨at22, (-1)⟩ : Place)]).bind fun l26 => some (⟨b18, b19, b20, b21, l14, l26⟩ : sem_packet) else (appd l16 [(⟨at22, x25.1⟩ : Place)]).bind fun l28 => (chk 4 at22).bind fun j30 => (lget (Vector.get b18.Tables j30) x25.1).bind fun e31 => (F_sem_packet_follow (⟨b18, b19, b20, b21, l14, l28⟩ : sem_packet) at22 e31.Insts).bind fun b32 => (bif (!b32.2.1) then (F_aset_List b32.2.2.set).bind fun x35 => (F_sem_packet_act (⟨b32.2.2.Switch, b32.2.2.env, b32.2.2.header, b32.2.2.set, b32.2.2.out, b32.2.2.path⟩ : sem_packet) x35).bind fun b36 => some (⟨b36.Switch, b36.env, b36.header, b36.set, b36.out, b36.path⟩ : sem_packet) else (F_sem_packet_through_l1 m23) b32.2.2.out b32.2.2.path b32.2.2.Switch b32.2.2.env b32.2.2.header b32.2.2.set b32.1))
def F_sem_packet_through (p1 : sem_packet) : Option sem_packet :=
  F_sem_packet_through_l1 fuel0 p1.out p1.path p1.Switch p1.env p1.header p1.set 0
theorem c_sem_packet_through (g2 gT : Nat) (p1 : sem_packet) (r : sem_packet) (h : F_sem_packet_through p1 = some r) : Con Tryz.prog 86 [ptrL g2 (Lens.id ksem_packet_o4_5)] (Star (fun v2 => BoxF g2 gT ksem_packet_o4_5 (fun v => (⟨p1.Switch, p1.env, p1.header, p1.set, v, v2⟩ : sem_packet_o4_5)) 71 kOut p1.out) 51 kPlace p1.path) (fun _ : Unit => top) (fun _ => Star (fun v2 => BoxF g2 gT ksem_packet_o4_5 (fun v => (⟨r.Switch, r.env, r.header, r.set, v, v2⟩ : sem_packet_o4_5)) 71 kOut r.out) 51 kPlace r.path) := by
  refine Con.intro Tryz.func86 rfl Tryz.ntmps86 rfl fun w H X => ?_
  unfold F_sem_packet_through at h
  refine AW.unboxS 0 2005 (by decide) rfl rfl fun v4 => AW.unboxF 0 2004 (by decide) rfl rfl fun v3 => AW.scope <| SR <| Ak rfl <| Nl <| AW.seq <| AW.label <| AW.block <| AW.loopG (d := []) (ν := Nat × (List Out) × (List Place) × Switch × Env × (Vector Wide 24) × (List Action) × Int × Value × Value) (fun n => True ∧ F_sem_packet_through_l1 n.1 n.2.1 n.2.2.1 n.2.2.2.1 n.2.2.2.2.1 n.2.2.2.2.2.1 n.2.2.2.2.2.2.1 n.2.2.2.2.2.2.2.1 = some r) (fun n => n.1) (fun n => [(0, ptrL g2 (Lens.id ksem_packet_o4_5)), (2, rd (kint .i64) n.2.2.2.2.2.2.2.1)]) (fun n => [(0, Blk g2 gT ksem_packet_o4_5 (⟨n.2.2.2.1, n.2.2.2.2.1, n.2.2.2.2.2.1, n.2.2.2.2.2.2.1, n.2.2.2.2.2.2.2.2.1, n.2.2.2.2.2.2.2.2.2⟩ : sem_packet_o4_5)), (2004, Row n.2.2.2.2.2.2.2.2.1 71 kOut n.2.1), (2005, Row n.2.2.2.2.2.2.2.2.2 51 kPlace n.2.2.1)]) (fuel0, p1.out, p1.path, p1.Switch, p1.env, p1.header, p1.set, 0, v3, v4) ⟨trivial, h⟩ ⟨rfl, ⟨rfl, rfl, trivial⟩, ⟨rfl, rfl, rfl, trivial⟩⟩ ?_
  rintro ⟨m23, l14, l16, b18, b19, b20, b21, at22, v15, v17⟩ ⟨hsf1, h⟩
  change True at hsf1
  change F_sem_packet_through_l1 m23 l14 l16 b18 b19 b20 b21 at22 = some r at h
  change AW _ _ _ ⟨slots [(0, ptrL g2 (Lens.id ksem_packet_o4_5)), (2, rd (kint .i64) at22)], ress [(0, Blk g2 gT ksem_packet_o4_5 (⟨b18, b19, b20, b21, v15, v17⟩ : sem_packet_o4_5)), (2004, Row v15 71 kOut l14), (2005, Row v17 51 kPlace l16)], _⟩
  cases m23 with
  | zero => cases h
  | succ m23 =>
    unfold F_sem_packet_through_l1 at h
    generalize hgo1 : F_sem_packet_through_l1 m23 = go1 at h
    refine AW.block <| AW.seq ?_
    obtain ⟨j24, hj24, h⟩ := bsome h
    obtain ⟨x25, hx25, h⟩ := bsome h
    refine AW.regionAny [⟨[0], [8], [], []⟩, ⟨[2], [9], [], []⟩, ⟨[8], [10], [], []⟩, ⟨[10], [11], [], []⟩, ⟨[11], [12], [], []⟩, ⟨[12, 9], [13], [], []⟩, ⟨[13], [14], [0], []⟩, ⟨[0], [15], [], []⟩, ⟨[15], [16], [], []⟩, ⟨[16], [17], [], []⟩, ⟨[17], [18], [0], []⟩, ⟨[14, 18], [19], [], []⟩, ⟨[19], [7], [], []⟩, ⟨[7], [20], [], []⟩, ⟨[7], [21], [], []⟩, ⟨[20], [3], [], []⟩, ⟨[21], [4], [], []⟩] mixed (by kernel_rfl) <| SMp rfl <| SMd rfl <| SNc rfl <| SFd lsem_packet_o4_5_0 flv144_0_4_5 rfl <| SFd lSwitch_0 fl26_0 rfl <| Sc (lo [12, 9] [] rfl fun S hs hr => op_index' rfl rfl ar23 (vh hs 12 rfl rfl) (vh hs 9 rfl rfl) hj24) rfl <| SLd ty22 0 rfl <| SMp rfl <| SNc rfl <| SFd lsem_packet_o4_5_2 flv144_2_4_5 rfl <| SLd ty44 0 rfl <| SCl [14, 18] (c_first_Find _ _ _ hx25) e34 rfl <| Sc (lo [19] [] rfl fun S hs hr => op_move (A := tup2 (rd (kint .i64) x25.1) (rd kbool x25.2)) rfl rfl (vh hs 19 rfl rfl)) rfl <| Sc (lo [7] [] rfl fun S hs hr => op_fst rfl rfl (vh hs 7 rfl rfl)) rfl <| Sc (lo [7] [] rfl fun S hs hr => op_snd rfl rfl (vh hs 7 rfl rfl)) rfl <| SAs rfl <| SAs rfl <| AW.seq <| SR <| Md rfl <| Ac (op_not rfl rfl (vt rfl)) rfl <| Nl <| Cn rfl (fun hc => ?_) (fun hc => ?_)
    · have h := cond_t hc h
      refine AW.seq ?_
      obtain ⟨l26, hl26, h⟩ := bsome h
      refine Rg <| Mp rfl <| Mp rfl <| Nc rfl <| FdA lsem_packet_o4_5_5 flv144_5_4_5 rfl <| Ac (op_loadv v17 rfl rfl tyr49 (vt rfl) (i := 0) rfl rfl) rfl <| Md rfl <| Ac (op_build (ps := [(0, .tmp 29), (1, .const (Value.int IntKind.i64 (-1)))]) (x := (⟨at22, (-1)⟩ : Place)) rfl rfl rfl (by kernel_rfl) zr51 ⟨_, _, lPlace_0, _, by kernel_rfl, (vt rfl), _, _, lPlace_1, _, by kernel_rfl, (vk rfl), rfl⟩) rfl <| Ac (op_buildSliceR (ps := [(0, .tmp 30)]) (l := [(⟨at22, (-1)⟩ : Place)]) rfl rfl sl49 zr51 rfl rfl ⟨_, _, Lens.idx 1 kPlace 0 (by decide), _, rfl, (vt rfl), rfl⟩ rfl) rfl <| Ct rfl (op_append' 2005 hl26 rfl rfl el49 (vt rfl) rfl (vt rfl)) ?_
      rintro _ ⟨v27, rfl⟩
      refine Nc rfl <| FdA lsem_packet_o4_5_5 flv144_5_4_5 rfl <| Ac (op_store rfl rfl tyr49 (vt rfl) (i := 0) rfl (vrow (i := 2005) rfl rfl)) rfl <| Nl <| AW.exit ?_
      obtain rfl := si h
      exact RetOK.turn (Turn.packF 0 2004 (fun v => (⟨b18, b19, b20, b21, v, v27⟩ : sem_packet_o4_5)) (by decide) rfl rfl) (RetOK.turn (Turn.packS 0 2005 (fun v2 => BoxF g2 gT ksem_packet_o4_5 (fun v => (⟨b18, b19, b20, b21, v, v2⟩ : sem_packet_o4_5)) 71 kOut l14) (by decide) rfl rfl) (ret0Y (i := 0) Tryz.results86 rfl rfl))
    · have h := cond_f hc h
      refine AW.skip <| AW.seq ?_
      obtain ⟨l28, hl28, h⟩ := bsome h
      refine Rg <| Mp rfl <| Mp rfl <| Nc rfl <| FdA lsem_packet_o4_5_5 flv144_5_4_5 rfl <| Ac (op_loadv v17 rfl rfl tyr49 (vt rfl) (i := 0) rfl rfl) rfl <| Md rfl <| Md rfl <| Ac (op_build (ps := [(0, .tmp 40), (1, .tmp 41)]) (x := (⟨at22, x25.1⟩ : Place)) rfl rfl rfl (by kernel_rfl) zr51 ⟨_, _, lPlace_0, _, by kernel_rfl, (vt rfl), _, _, lPlace_1, _, by kernel_rfl, (vt rfl), rfl⟩) rfl <| Ac (op_buildSliceR (ps := [(0, .tmp 42)]) (l := [(⟨at22, x25.1⟩ : Place)]) rfl rfl sl49 zr51 rfl rfl ⟨_, _, Lens.idx 1 kPlace 0 (by decide), _, rfl, (vt rfl), rfl⟩ rfl) rfl <| Ct rfl (op_append' 2005 hl28 rfl rfl el49 (vt rfl) rfl (vt rfl)) ?_
      rintro _ ⟨v29, rfl⟩
      refine Nc rfl <| FdA lsem_packet_o4_5_5 flv144_5_4_5 rfl <| Ac (op_store rfl rfl tyr49 (vt rfl) (i := 0) rfl (vrow (i := 2005) rfl rfl)) rfl <| Nl <| AW.seq ?_
      obtain ⟨j30, hj30, h⟩ := bsome h
      obtain ⟨e31, he31, h⟩ := bsome h
      obtain ⟨b32, hb32, h⟩ := bsome h
      refine Rg <| Mp rfl <| Md rfl <| Mp rfl <| Md rfl <| Nc rfl <| FdA lsem_packet_o4_5_0 flv144_0_4_5 rfl <| FdA lSwitch_0 fl26_0 rfl <| Ac (op_index' rfl rfl ar23 (vt rfl) (vt rfl) hj30) rfl <| Ld ty22 0 rfl <| Md rfl <| Ac (op_indexs' rfl rfl sl22 (vt rfl) (vt rfl) he31) rfl <| Fp lFlow_6 fl61_6 rfl <| Lp1 ty59 rfl <| AOps.packF 0 2004 (fun v => (⟨b18, b19, b20, b21, v, v29⟩ : sem_packet_o4_5)) (by decide) rfl rfl <| AOps.packS 0 2005 (fun v2 => BoxF g2 gT ksem_packet_o4_5 (fun v => (⟨b18, b19, b20, b21, v, v2⟩ : sem_packet_o4_5)) 71 kOut l14) (by decide) rfl rfl <| Ct rfl (op_callR 0 (xs := [.tmp 48, .tmp 49, .tmp 60]) (c_sem_packet_follow _ _ _ _ _ _ hb32) e147 rfl rfl ⟨vt rfl, vt rfl, vt rfl, trivial⟩ rfl) ?_
      rintro _ ⟨_u, rfl⟩
      refine AOps.unboxS 0 2005 (by decide) rfl rfl fun v34 => AOps.unboxF 0 2004 (by decide) rfl rfl fun v33 => Mt2 rfl <| Ac (op_fst rfl rfl (vt rfl)) rfl <| Ac (op_snd rfl rfl (vt rfl)) rfl <| As rfl <| As rfl <| Nl <| AW.seq <| SR <| Md rfl <| Ac (op_not rfl rfl (vt rfl)) rfl <| Nl <| Cn rfl (fun hc => ?_) (fun hc => ?_)
      · have h := cond_t hc h
        refine AW.seq ?_
        obtain ⟨x35, hx35, h⟩ := bsome h
        obtain ⟨b36, hb36, h⟩ := bsome h
        refine Rg <| Mp rfl <| Mp rfl <| Nc rfl <| FdA lsem_packet_o4_5_3 flv144_3_4_5 rfl <| Ld ty122 0 rfl <| Cl [70] (c_aset_List _ _ hx35) e149 rfl <| AOps.packF 0 2004 (fun v => (⟨b32.2.2.Switch, b32.2.2.env, b32.2.2.header, b32.2.2.set, v, v34⟩ : sem_packet_o4_5)) (by decide) rfl rfl <| AOps.packS 0 2005 (fun v2 => BoxF g2 gT ksem_packet_o4_5 (fun v => (⟨b32.2.2.Switch, b32.2.2.env, b32.2.2.header, b32.2.2.set, v, v2⟩ : sem_packet_o4_5)) 71 kOut b32.2.2.out) (by decide) rfl rfl <| Ct rfl (op_callR 0 (xs := [.tmp 66, .tmp 71]) (c_sem_packet_act _ _ _ _ _ hb36) e148 rfl rfl ⟨vt rfl, vt rfl, trivial⟩ rfl) ?_
        rintro _ ⟨_u, rfl⟩
        refine AOps.unboxS 0 2005 (by decide) rfl rfl fun v38 => AOps.unboxF 0 2004 (by decide) rfl rfl fun v37 => Nl <| AW.exit ?_
        obtain rfl := si h
        exact RetOK.turn (Turn.packF 0 2004 (fun v => (⟨b36.Switch, b36.env, b36.header, b36.set, v, v38⟩ : sem_packet_o4_5)) (by decide) rfl rfl) (RetOK.turn (Turn.packS 0 2005 (fun v2 => BoxF g2 gT ksem_packet_o4_5 (fun v => (⟨b36.Switch, b36.env, b36.header, b36.set, v, v2⟩ : sem_packet_o4_5)) 71 kOut b36.out) (by decide) rfl rfl) (ret0Y (i := 0) Tryz.results86 rfl rfl))
      · have h := cond_f hc h
        refine AW.skip <| Rg <| Md rfl <| As rfl <| Nl ?_
        subst hgo1
        exact ⟨(m23, b32.2.2.out, b32.2.2.path, b32.2.2.Switch, b32.2.2.env, b32.2.2.header, b32.2.2.set, b32.1, v33, v34), Nat.lt_succ_self _, ⟨trivial, h⟩, ⟨rfl, ⟨rfl, rfl, trivial⟩, ⟨rfl, rfl, rfl, trivial⟩⟩⟩
def F_sem_Out (s1 : Switch) (e2 : Env) (h3 : (Vector Wide 24)) : Option (List Out) :=
  (F_sem_packet_through (⟨s1, e2, h3, [], [], []⟩ : sem_packet)).bind fun b8 => some b8.out
theorem c_sem_Out (s1 : Switch) (e2 : Env) (h3 : (Vector Wide 24)) (r : (List Out)) (h : F_sem_Out s1 e2 h3 = some r) : PCon Tryz.prog 29 [rd kSwitch s1, rd kEnv e2, rd (karr 24 kWide) h3] (rd (ksl kOut) r) := by
  refine PCon.of (Con.intro0 Tryz.func29 rfl Tryz.ntmps29 rfl fun w H => ?_)
  unfold F_sem_Out at h
  refine SR <| Ct rfl (op_box 4 rfl rfl (vt rfl)) ?_
  rintro _ ⟨g4, rfl⟩
  refine Ct rfl (op_box 5 rfl rfl (vt rfl)) ?_
  rintro _ ⟨g5, rfl⟩
  refine Ct rfl (op_box 6 rfl rfl (vt rfl)) ?_
  rintro _ ⟨g6, rfl⟩
  refine Ac (op_assign (A := rd (ksl kOut) []) rfl rfl vnil) rfl <| Nl <| AW.seq <| AW.newnil 2264 71 kOut <| AW.newnil 2265 51 kPlace <| Rg <| Ld ty26 4 rfl <| Ld ty39 5 rfl <| Ld ty44 6 rfl <| Ac (op_build (ps := [(0, .tmp 8), (1, .tmp 9), (2, .tmp 10)]) (x := (⟨s1, e2, h3, [], (.slice none 0 0), (.slice none 0 0)⟩ : sem_packet_o4_5)) rfl rfl rfl (by kernel_rfl) zrv144_4_5 ⟨_, _, lsem_packet_o4_5_0, _, by kernel_rfl, (vt rfl), _, _, lsem_packet_o4_5_1, _, by kernel_rfl, (vt rfl), _, _, lsem_packet_o4_5_2, _, by kernel_rfl, (vt rfl), rfl⟩) rfl <| Ct rfl (op_box 13 rfl rfl (vt rfl)) ?_
  rintro _ ⟨g7, rfl⟩
  refine Ac (op_assign (A := ptrL g7 (Lens.id ksem_packet_o4_5)) rfl rfl (vt rfl)) rfl <| Nl <| AW.seq ?_
  obtain ⟨b8, hb8, h⟩ := bsome h
  refine Rg <| Mp rfl <| AOps.packF 13 2264 (fun v => (⟨s1, e2, h3, [], v, (.slice none 0 0)⟩ : sem_packet_o4_5)) (by decide) rfl rfl <| AOps.packS 13 2265 (fun v2 => BoxF g7 144 ksem_packet_o4_5 (fun v => (⟨s1, e2, h3, [], v, v2⟩ : sem_packet_o4_5)) 71 kOut []) (by decide) rfl rfl <| Ct rfl (op_callR 13 (xs := [.tmp 13]) (c_sem_packet_through _ _ _ _ hb8) e86 rfl rfl ⟨vt rfl, trivial⟩ rfl) ?_
  rintro _ ⟨_u, rfl⟩
  refine AOps.unboxS 13 2265 (by decide) rfl rfl fun v10 => AOps.unboxF 13 2264 (by decide) rfl rfl fun v9 => Nl <| SR <| Mp rfl <| Nc rfl <| FdA lsem_packet_o4_5_4 flv144_4_4_5 rfl <| Ac (op_loadv v9 rfl rfl tyr46 (vt rfl) (i := 13) rfl rfl) rfl <| Aw rfl <| Nl <| AW.freezes [6, 18] 2264 rfl ⟨rfl, rfl, trivial⟩ rfl <| AW.ret ?_
  obtain rfl := si h
  exact ret1 Tryz.results29 rfl (out_tmp rfl)
def F_sem_Path (s1 : Switch) (h2 : (Vector Wide 24)) : Option (List Place) :=
  (F_sem_packet_through (⟨s1, zEnv, h2, [], [], []⟩ : sem_packet)).bind fun b6 => some b6.path
theorem c_sem_Path (s1 : Switch) (h2 : (Vector Wide 24)) (r : (List Place)) (h : F_sem_Path s1 h2 = some r) : PCon Tryz.prog 32 [rd kSwitch s1, rd (karr 24 kWide) h2] (rd (ksl kPlace) r) := by
  refine PCon.of (Con.intro0 Tryz.func32 rfl Tryz.ntmps32 rfl fun w H => ?_)
  unfold F_sem_Path at h
  refine SR <| Ct rfl (op_box 3 rfl rfl (vt rfl)) ?_
  rintro _ ⟨g3, rfl⟩
  refine Ct rfl (op_box 4 rfl rfl (vt rfl)) ?_
  rintro _ ⟨g4, rfl⟩
  refine Ac (op_assign (A := rd (ksl kPlace) []) rfl rfl vnil) rfl <| Nl <| AW.seq <| AW.newnil 2204 71 kOut <| AW.newnil 2205 51 kPlace <| Rg <| Ld ty26 3 rfl <| Ld ty44 4 rfl <| Ac (op_build (ps := [(0, .tmp 6), (2, .tmp 7)]) (x := (⟨s1, zEnv, h2, [], (.slice none 0 0), (.slice none 0 0)⟩ : sem_packet_o4_5)) rfl rfl rfl (by kernel_rfl) zrv144_4_5 ⟨_, _, lsem_packet_o4_5_0, _, by kernel_rfl, (vt rfl), _, _, lsem_packet_o4_5_2, _, by kernel_rfl, (vt rfl), rfl⟩) rfl <| Ct rfl (op_box 10 rfl rfl (vt rfl)) ?_
  rintro _ ⟨g5, rfl⟩
  refine Ac (op_assign (A := ptrL g5 (Lens.id ksem_packet_o4_5)) rfl rfl (vt rfl)) rfl <| Nl <| AW.seq ?_
  obtain ⟨b6, hb6, h⟩ := bsome h
  refine Rg <| Mp rfl <| AOps.packF 10 2204 (fun v => (⟨s1, zEnv, h2, [], v, (.slice none 0 0)⟩ : sem_packet_o4_5)) (by decide) rfl rfl <| AOps.packS 10 2205 (fun v2 => BoxF g5 144 ksem_packet_o4_5 (fun v => (⟨s1, zEnv, h2, [], v, v2⟩ : sem_packet_o4_5)) 71 kOut []) (by decide) rfl rfl <| Ct rfl (op_callR 10 (xs := [.tmp 10]) (c_sem_packet_through _ _ _ _ hb6) e86 rfl rfl ⟨vt rfl, trivial⟩ rfl) ?_
  rintro _ ⟨_u, rfl⟩
  refine AOps.unboxS 10 2205 (by decide) rfl rfl fun v8 => AOps.unboxF 10 2204 (by decide) rfl rfl fun v7 => Nl <| SR <| Mp rfl <| Nc rfl <| FdA lsem_packet_o4_5_5 flv144_5_4_5 rfl <| Ac (op_loadv v8 rfl rfl tyr49 (vt rfl) (i := 10) rfl rfl) rfl <| Aw rfl <| Nl <| AW.freezes [4, 15] 2205 rfl ⟨rfl, rfl, trivial⟩ rfl <| AW.ret ?_
  obtain rfl := si h
  exact ret1 Tryz.results32 rfl (out_tmp rfl)
def F_slices_Equal_Place_l1 (s11 : (List Place)) (s22 : (List Place)) : Nat → Nat → Option Bool
  | 0, i3 => some true
  | m4 + 1, i3 => (lget s11 (i3 : Int)).bind fun e5 => (lget s22 (i3 : Int)).bind fun e6 => (bif (decide (e5 ≠ e6)) then some false else (F_slices_Equal_Place_l1 s11 s22 m4) (i3 + 1))
def F_slices_Equal_Place (s11 : (List Place)) (s22 : (List Place)) : Option Bool :=
  (bif (decide ((s11.length : Int) ≠ (s22.length : Int))) then some false else F_slices_Equal_Place_l1 s11 s22 ((s11.length : Int) : Int).toNat 0)
theorem c_slices_Equal_Place (s11 : (List Place)) (s22 : (List Place)) (r : Bool) (h : F_slices_Equal_Place s11 s22 = some r) : PCon Tryz.prog 31 [rd (ksl kPlace) s11, rd (ksl kPlace) s22] (rd kbool r) := by
  refine PCon.of (Con.intro0 Tryz.func31 rfl Tryz.ntmps31 rfl fun w H => ?_)
  unfold F_slices_Equal_Place at h
  refine SR <| Ab rfl <| Nl <| AW.seq <| SR <| Md rfl <| Ac (op_len' rfl rfl sl49 (vt rfl)) rfl <| Md rfl <| Ac (op_len' rfl rfl sl49 (vt rfl)) rfl <| Ac (op_neq rfl rfl (vt rfl) (vt rfl)) rfl <| Nl <| Cn rfl (fun hc => ?_) (fun hc => ?_)
  · have h := cond_t hc h
    refine SR <| Ab rfl <| Nl <| AW.ret ?_
    obtain rfl := si h
    exact ret1 Tryz.results31 rfl (out_tmp rfl)
  · have h := cond_f hc h
    refine AW.skip <| AW.seq <| SR <| Md rfl <| Ac (op_len' rfl rfl sl49 (vt rfl)) rfl <| Mk rfl <| Nl <| AW.block <| AW.loopG (d := []) (ν := Nat × Nat) (fun n => Cnt (s11.length : Int) n.2 n.1 ∧ F_slices_Equal_Place_l1 s11 s22 n.1 n.2 = some r) (fun n => n.1) (fun n => [(0, rd (ksl kPlace) s11), (1, rd (ksl kPlace) s22), (12, rd (kint .i64) (s11.length : Int)), (13, rd (kint .i64) (n.2 : Int))]) (fun n => []) (((s11.length : Int) : Int).toNat, 0) ⟨Cnt.start _, h⟩ ⟨rfl, ⟨rfl, rfl, rfl, rfl, trivial⟩, trivial⟩ ?_
    rintro ⟨m4, i3⟩ ⟨hsf1, h⟩
    change Cnt (s11.length : Int) i3 m4 at hsf1
    change F_slices_Equal_Place_l1 s11 s22 m4 i3 = some r at h
    change AW _ _ _ ⟨slots [(0, rd (ksl kPlace) s11), (1, rd (ksl kPlace) s22), (12, rd (kint .i64) (s11.length : Int)), (13, rd (kint .i64) (i3 : Int))], ress [], _⟩
    cases m4 with
    | zero =>
      unfold F_slices_Equal_Place_l1 at h
      refine SR <| Ac (op_lss rfl rfl (vt rfl) (vt rfl)) rfl <| Nl <| AW.seq <| Cn rfl (fun hc => absurd (of_decide_eq_true hc) hsf1.zero) (fun hc => ?_)
      refine AW.exit <| SR <| Ab rfl <| Nl <| AW.ret ?_
      obtain rfl := si h
      exact ret1 Tryz.results31 rfl (out_tmp rfl)
    | succ m4 =>
      unfold F_slices_Equal_Place_l1 at h
      generalize hgo1 : F_slices_Equal_Place_l1 s11 s22 m4 = go1 at h
      refine SR <| Ac (op_lss rfl rfl (vt rfl) (vt rfl)) rfl <| Nl <| AW.seq <| Cn rfl (fun hc => ?_) (fun hc => absurd hsf1.succ (of_decide_eq_false hc))
      have hlti3 := of_decide_eq_true hc
      refine AW.skip <| AW.seq <| AW.block <| SR <| Md rfl <| As rfl <| Nl <| AW.seq ?_
      obtain ⟨e5, he5, h⟩ := bsome h
      obtain ⟨e6, he6, h⟩ := bsome h
      refine AW.regionAny [⟨[0], [16], [], []⟩, ⟨[5], [17], [], []⟩, ⟨[16, 17], [18], [], []⟩, ⟨[18], [19], [], []⟩, ⟨[1], [20], [], []⟩, ⟨[5], [21], [], []⟩, ⟨[20, 21], [22], [], []⟩, ⟨[22], [23], [], []⟩, ⟨[19, 23], [24], [], []⟩] mixed (by kernel_rfl) <| SMd rfl <| SMd rfl <| Sc (lo [16, 17] [] rfl fun S hs hr => op_indexs' rfl rfl sl49 (vh hs 16 rfl rfl) (vh hs 17 rfl rfl) he5) rfl <| SLp ty51 rfl <| SMd rfl <| SMd rfl <| Sc (lo [20, 21] [] rfl fun S hs hr => op_indexs' rfl rfl sl49 (vh hs 20 rfl rfl) (vh hs 21 rfl rfl) he6) rfl <| SLp ty51 rfl <| Sc (lo [19, 23] [] rfl fun S hs hr => op_neqk rfl rfl eqk51 (by decide) rfl eg51 (vh hs 19 rfl rfl) (vh hs 23 rfl rfl)) rfl <| Cn rfl (fun hc => ?_) (fun hc => ?_)
      · have h := cond_t hc h
        refine SR <| Ab rfl <| Nl <| AW.ret ?_
        obtain rfl := si h
        exact ret1 Tryz.results31 rfl (out_tmp rfl)
      · have h := cond_f hc h
        refine AW.skip <| Rg <| Ac (op_incr (t := 12) rfl rfl (vt rfl) (vk rfl) (vt rfl) hlti3) rfl <| Md rfl <| Nl ?_
        subst hgo1
        exact ⟨(m4, i3 + 1), Nat.lt_succ_self _, ⟨hsf1.next, h⟩, ⟨rfl, ⟨rfl, rfl, rfl, rfl, trivial⟩, trivial⟩⟩
def F_l31_awake : Option Bool :=
  (F_sem_Out { { (⟨(Vector.replicate 4 []), []⟩ : Switch) with Tables := (Vector.set ((⟨(Vector.replicate 4 []), []⟩ : Switch).Tables) (⟨0, by decide⟩ : _root_.Fin 4).1 [(⟨0, 0, 0, 0, 0, [], [(⟨1, 2, zWide, zWide, []⟩ : Inst), (⟨3, 0, zWide, zWide, [(⟨0, 9, 0, 0, 0, zOxm⟩ : Action)]⟩ : Inst)]⟩ : Flow)] (⟨0, by decide⟩ : _root_.Fin 4).2) } with Tables := (Vector.set ({ (⟨(Vector.replicate 4 []), []⟩ : Switch) with Tables := (Vector.set ((⟨(Vector.replicate 4 []), []⟩ : Switch).Tables) (⟨0, by decide⟩ : _root_.Fin 4).1 [(⟨0, 0, 0, 0, 0, [], [(⟨1, 2, zWide, zWide, []⟩ : Inst), (⟨3, 0, zWide, zWide, [(⟨0, 9, 0, 0, 0, zOxm⟩ : Action)]⟩ : Inst)]⟩ : Flow)] (⟨0, by decide⟩ : _root_.Fin 4).2) }.Tables) (⟨2, by decide⟩ : _root_.Fin 4).1 [(⟨0, 0, 0, 0, 0, [], [(⟨4, 0, zWide, zWide, [(⟨0, 8, 0, 0, 0, zOxm⟩ : Action)]⟩ : Inst)]⟩ : Flow)] (⟨2, by decide⟩ : _root_.Fin 4).2) } (⟨0, []⟩ : Env) (Vector.replicate 24 zWide)).bind fun x2 => (opt (decide ((x2.length : Int) = 2)) (lget x2 0)).bind fun e3 => (opt ((decide ((x2.length : Int) = 2)) && (decide (e3.Port = 8))) (lget x2 1)).bind fun e4 => (opt (((decide ((x2.length : Int) = 2)) && (decide (e3.Port = 8))) && (decide (e4.Port = 9))) (F_sem_Path { { (⟨(Vector.replicate 4 []), []⟩ : Switch) with Tables := (Vector.set ((⟨(Vector.replicate 4 []), []⟩ : Switch).Tables) (⟨0, by decide⟩ : _root_.Fin 4).1 [(⟨0, 0, 0, 0, 0, [], [(⟨1, 2, zWide, zWide, []⟩ : Inst), (⟨3, 0, zWide, zWide, [(⟨0, 9, 0, 0, 0, zOxm⟩ : Action)]⟩ : Inst)]⟩ : Flow)] (⟨0, by decide⟩ : _root_.Fin 4).2) } with Tables := (Vector.set ({ (⟨(Vector.replicate 4 []), []⟩ : Switch) with Tables := (Vector.set ((⟨(Vector.replicate 4 []), []⟩ : Switch).Tables) (⟨0, by decide⟩ : _root_.Fin 4).1 [(⟨0, 0, 0, 0, 0, [], [(⟨1, 2, zWide, zWide, []⟩ : Inst), (⟨3, 0, zWide, zWide, [(⟨0, 9, 0, 0, 0, zOxm⟩ : Action)]⟩ : Inst)]⟩ : Flow)] (⟨0, by decide⟩ : _root_.Fin 4).2) }.Tables) (⟨2, by decide⟩ : _root_.Fin 4).1 [(⟨0, 0, 0, 0, 0, [], [(⟨4, 0, zWide, zWide, [(⟨0, 8, 0, 0, 0, zOxm⟩ : Action)]⟩ : Inst)]⟩ : Flow)] (⟨2, by decide⟩ : _root_.Fin 4).2) } (Vector.replicate 24 zWide))).bind fun x5 => (opt (((decide ((x2.length : Int) = 2)) && (decide (e3.Port = 8))) && (decide (e4.Port = 9))) (F_slices_Equal_Place x5 [(⟨0, 0⟩ : Place), (⟨2, 0⟩ : Place)])).bind fun x6 => some ((((decide ((x2.length : Int) = 2)) && (decide (e3.Port = 8))) && (decide (e4.Port = 9))) && x6)
theorem c_l31_awake (r : Bool) (h : F_l31_awake = some r) : PCon Tryz.prog 27 [] (rd kbool r) := by
  refine PCon.of (Con.intro0 Tryz.func27 rfl Tryz.ntmps27 rfl fun w H => ?_)
  unfold F_l31_awake at h
  refine SR <| Ab rfl <| Nl <| SR <| Ac (op_build (ps := []) (x := (⟨(Vector.replicate 4 []), []⟩ : Switch)) rfl rfl rfl (by kernel_rfl) zr26 rfl) rfl <| Ct rfl (op_alloc 2 rfl rfl zr26) ?_
  rintro _ ⟨g1, rfl⟩
  refine Sto ty26 2 rfl <| Nl <| SR <| Ac (op_build (ps := [(0, .const (Value.int IntKind.i64 1)), (1, .const (Value.int IntKind.i64 2))]) (x := (⟨1, 2, zWide, zWide, []⟩ : Inst)) rfl rfl rfl (by kernel_rfl) zr124 ⟨_, _, lInst_0, _, by kernel_rfl, (vk rfl), _, _, lInst_1, _, by kernel_rfl, (vk rfl), rfl⟩) rfl <| Ac (op_build (ps := [(0, .const (Value.int IntKind.i64 0)), (1, .const (Value.int IntKind.i64 9))]) (x := (⟨0, 9, 0, 0, 0, zOxm⟩ : Action)) rfl rfl rfl (by kernel_rfl) zr121 ⟨_, _, lAction_0, _, by kernel_rfl, (vk rfl), _, _, lAction_1, _, by kernel_rfl, (vk rfl), rfl⟩) rfl <| Ac (op_buildSliceR (ps := [(0, .tmp 5)]) (l := [(⟨0, 9, 0, 0, 0, zOxm⟩ : Action)]) rfl rfl sl122 zr121 rfl rfl ⟨_, _, Lens.idx 1 kAction 0 (by decide), _, rfl, (vt rfl), rfl⟩ rfl) rfl <| Ac (op_build (ps := [(0, .const (Value.int IntKind.i64 3)), (4, .tmp 6)]) (x := (⟨3, 0, zWide, zWide, [(⟨0, 9, 0, 0, 0, zOxm⟩ : Action)]⟩ : Inst)) rfl rfl rfl (by kernel_rfl) zr124 ⟨_, _, lInst_0, _, by kernel_rfl, (vk rfl), _, _, lInst_4, _, by kernel_rfl, (vt rfl), rfl⟩) rfl <| Ac (op_buildSliceR (ps := [(0, .tmp 4), (1, .tmp 7)]) (l := [(⟨1, 2, zWide, zWide, []⟩ : Inst), (⟨3, 0, zWide, zWide, [(⟨0, 9, 0, 0, 0, zOxm⟩ : Action)]⟩ : Inst)]) rfl rfl sl59 zr124 rfl rfl ⟨_, _, Lens.idx 2 kInst 0 (by decide), _, rfl, (vt rfl), _, _, Lens.idx 2 kInst 1 (by decide), _, rfl, (vt rfl), rfl⟩ rfl) rfl <| Ac (op_build (ps := [(6, .tmp 8)]) (x := (⟨0, 0, 0, 0, 0, [], [(⟨1, 2, zWide, zWide, []⟩ : Inst), (⟨3, 0, zWide, zWide, [(⟨0, 9, 0, 0, 0, zOxm⟩ : Action)]⟩ : Inst)]⟩ : Flow)) rfl rfl rfl (by kernel_rfl) zr61 ⟨_, _, lFlow_6, _, by kernel_rfl, (vt rfl), rfl⟩) rfl <| Ac (op_buildSliceR (ps := [(0, .tmp 9)]) (l := [(⟨0, 0, 0, 0, 0, [], [(⟨1, 2, zWide, zWide, []⟩ : Inst), (⟨3, 0, zWide, zWide, [(⟨0, 9, 0, 0, 0, zOxm⟩ : Action)]⟩ : Inst)]⟩ : Flow)]) rfl rfl sl22 zr61 rfl rfl ⟨_, _, Lens.idx 1 kFlow 0 (by decide), _, rfl, (vt rfl), rfl⟩ rfl) rfl <| FdA lSwitch_0 fl26_0 rfl <| Ac (op_index' rfl rfl ar23 (vt rfl) (vk rfl) rfl) rfl <| Sto ty22 2 rfl <| Nl <| SR <| Ac (op_build (ps := [(0, .const (Value.int IntKind.i64 0)), (1, .const (Value.int IntKind.i64 8))]) (x := (⟨0, 8, 0, 0, 0, zOxm⟩ : Action)) rfl rfl rfl (by kernel_rfl) zr121 ⟨_, _, lAction_0, _, by kernel_rfl, (vk rfl), _, _, lAction_1, _, by kernel_rfl, (vk rfl), rfl⟩) rfl <| Ac (op_buildSliceR (ps := [(0, .tmp 13)]) (l := [(⟨0, 8, 0, 0, 0, zOxm⟩ : Action)]) rfl rfl sl122 zr121 rfl rfl ⟨_, _, Lens.idx 1 kAction 0 (by decide), _, rfl, (vt rfl), rfl⟩ rfl) rfl <| Ac (op_build (ps := [(0, .const (Value.int IntKind.i64 4)), (4, .tmp 14)]) (x := (⟨4, 0, zWide, zWide, [(⟨0, 8, 0, 0, 0, zOxm⟩ : Action)]⟩ : Inst)) rfl rfl rfl (by kernel_rfl) zr124 ⟨_, _, lInst_0, _, by kernel_rfl, (vk rfl), _, _, lInst_4, _, by kernel_rfl, (vt rfl), rfl⟩) rfl <| Ac (op_buildSliceR (ps := [(0, .tmp 15)]) (l := [(⟨4, 0, zWide, zWide, [(⟨0, 8, 0, 0, 0, zOxm⟩ : Action)]⟩ : Inst)]) rfl rfl sl59 zr124 rfl rfl ⟨_, _, Lens.idx 1 kInst 0 (by decide), _, rfl, (vt rfl), rfl⟩ rfl) rfl ?_
  refine Ac (op_build (ps := [(6, .tmp 16)]) (x := (⟨0, 0, 0, 0, 0, [], [(⟨4, 0, zWide, zWide, [(⟨0, 8, 0, 0, 0, zOxm⟩ : Action)]⟩ : Inst)]⟩ : Flow)) rfl rfl rfl (by kernel_rfl) zr61 ⟨_, _, lFlow_6, _, by kernel_rfl, (vt rfl), rfl⟩) rfl <| Ac (op_buildSliceR (ps := [(0, .tmp 17)]) (l := [(⟨0, 0, 0, 0, 0, [], [(⟨4, 0, zWide, zWide, [(⟨0, 8, 0, 0, 0, zOxm⟩ : Action)]⟩ : Inst)]⟩ : Flow)]) rfl rfl sl22 zr61 rfl rfl ⟨_, _, Lens.idx 1 kFlow 0 (by decide), _, rfl, (vt rfl), rfl⟩ rfl) rfl <| FdA lSwitch_0 fl26_0 rfl <| Ac (op_index' rfl rfl ar23 (vt rfl) (vk rfl) rfl) rfl <| Sto ty22 2 rfl <| Nl <| AW.seq ?_
  obtain ⟨x2, hx2, h⟩ := bsome h
  refine Rg <| Ld ty26 2 rfl <| Ac (op_build (ps := []) (x := (⟨0, []⟩ : Env)) rfl rfl rfl (by kernel_rfl) zr39 rfl) rfl <| Ac (op_build (ps := []) (x := (Vector.replicate 24 zWide)) rfl rfl rfl (by kernel_rfl) zr44 rfl) rfl <| Cl [21, 22, 23] (c_sem_Out _ _ _ _ hx2) e29 rfl <| As rfl <| Nl <| AW.seq ?_
  obtain ⟨e3, he3, h⟩ := bsome h
  obtain ⟨e4, he4, h⟩ := bsome h
  obtain ⟨x5, hx5, h⟩ := bsome h
  obtain ⟨x6, hx6, h⟩ := bsome h
  refine Rg <| Md rfl <| Ac (op_len' rfl rfl sl46 (vt rfl)) rfl <| Ac (op_eql rfl rfl (vt rfl) (vk rfl)) rfl <| Md rfl <| Gd rfl (fun hq => op_move (A := rd (ksl kOut) x2) rfl rfl (vt rfl)) <| Gd rfl (fun hq => op_indexs' rfl rfl sl46 (vgt rfl hq) (vk rfl) (opt_t he3 hq)) <| Gd rfl (fun hq => op_fieldp lOut_0 rfl rfl fl71_0 (vgt rfl hq)) <| Gd rfl (fun hq => op_loadp rfl rfl ty3 (vgt rfl hq)) <| Gd rfl (fun hq => op_eql rfl rfl (vgt rfl hq) (vk rfl)) <| Ac (op_all rfl rfl (vt rfl) (vt rfl)) rfl <| Md rfl <| Gd rfl (fun hq => op_move (A := rd (ksl kOut) x2) rfl rfl (vt rfl)) <| Gd rfl (fun hq => op_indexs' rfl rfl sl46 (vgt rfl hq) (vk rfl) (opt_t he4 hq)) <| Gd rfl (fun hq => op_fieldp lOut_0 rfl rfl fl71_0 (vgt rfl hq)) <| Gd rfl (fun hq => op_loadp rfl rfl ty3 (vgt rfl hq)) <| Gd rfl (fun hq => op_eql rfl rfl (vgt rfl hq) (vk rfl)) <| Ac (op_all rfl rfl (vt rfl) (vt rfl)) rfl <| Md rfl <| Gd rfl (fun hq => op_load rfl rfl ty26 (vt rfl) (i := 2) rfl) <| Gd rfl (fun hq => op_build (ps := []) (x := (Vector.replicate 24 zWide)) rfl rfl rfl (by kernel_rfl) zr44 rfl) <| Gd rfl (fun hq => op_call (xs := [.tmp 43, .tmp 44]) (c_sem_Path _ _ _ (opt_t hx5 hq)) e32 rfl rfl ⟨vgt rfl hq, vgt rfl hq, trivial⟩) <| Gd rfl (fun hq => op_build (ps := [(0, .const (Value.int IntKind.i64 0))]) (x := (⟨0, 0⟩ : Place)) rfl rfl rfl (by kernel_rfl) zr51 ⟨_, _, lPlace_0, _, by kernel_rfl, (vk rfl), rfl⟩) <| Gd rfl (fun hq => op_build (ps := [(0, .const (Value.int IntKind.i64 2))]) (x := (⟨2, 0⟩ : Place)) rfl rfl rfl (by kernel_rfl) zr51 ⟨_, _, lPlace_0, _, by kernel_rfl, (vk rfl), rfl⟩) <| Gd rfl (fun hq => op_buildSliceR (ps := [(0, .tmp 46), (1, .tmp 47)]) (l := [(⟨0, 0⟩ : Place), (⟨2, 0⟩ : Place)]) rfl rfl sl49 zr51 rfl rfl ⟨_, _, Lens.idx 2 kPlace 0 (by decide), _, rfl, (vgt rfl hq), _, _, Lens.idx 2 kPlace 1 (by decide), _, rfl, (vgt rfl hq), rfl⟩ rfl) <| Gd rfl (fun hq => op_call (xs := [.tmp 45, .tmp 48]) (c_slices_Equal_Place _ _ _ (opt_t hx6 hq)) e31 rfl rfl ⟨vgt rfl hq, vgt rfl hq, trivial⟩) <| Ac (op_all rfl rfl (vt rfl) (vt rfl)) rfl <| As rfl <| Nl <| AW.ret ?_
  obtain rfl := si h
  exact ret1 Tryz.results27 rfl (out_tmp rfl)
def F_l31_SemRises_l1 (x7 : (List Place)) (s1 : Switch) : (List Place) → Nat → Option Bool
  | [], i12 => (F_l31_awake).bind fun x14 => some x14
  | x15 :: l13, i12 => (opt (decide ((i12 : Int) > 0)) (lget x7 (IntKind.i64.wrap ((i12 : Int) - 1)))).bind fun e17 => (opt (((decide ((i12 : Int) > 0)) == true) && ((decide (x15.Table ≤ e17.Table)) == false)) (lget x7 (IntKind.i64.wrap ((i12 : Int) - 1)))).bind fun e18 => (opt (!((((decide ((i12 : Int) > 0)) && ((decide (x15.Table ≤ e17.Table)) || (decide (e18.Flow < 0)))) || (decide (x15.Table ≥ 4))) || (decide (x15.Flow < (-1))))) (chk 4 (imax (imin x15.Table 3) 0))).bind fun j19 => (bif (((((decide ((i12 : Int) > 0)) && ((decide (x15.Table ≤ e17.Table)) || (decide (e18.Flow < 0)))) || (decide (x15.Table ≥ 4))) || (decide (x15.Flow < (-1)))) || (decide (x15.Flow ≥ ((Vector.get s1.Tables j19).length : Int)))) then some false else (F_l31_SemRises_l1 x7 s1 l13) (i12 + 1))
def F_l31_SemRises (s1 : Switch) (h2 : (Vector Wide 24)) : Option Bool :=
  (F_pl_Switch s1 8).bind fun x5 => (bif (!x5) then (F_l31_awake).bind fun x6 => some x6 else (F_sem_Path s1 h2).bind fun x7 => (opt (!(decide ((x7.length : Int) = 0))) (lget x7 0)).bind fun e8 => (bif ((decide ((x7.length : Int) = 0)) || (decide (e8.Table ≠ 0))) then some false else (F_first_Find (Vector.get s1.Tables (⟨0, by decide⟩ : _root_.Fin 4)) h2).bind fun x9 => (opt x9.2 (lget x7 0)).bind fun e10 => (opt (((x9.2 && (decide (e10.Flow ≠ x9.1))) == false) && ((!x9.2) == true)) (lget x7 0)).bind fun e11 => (bif ((x9.2 && (decide (e10.Flow ≠ x9.1))) || ((!x9.2) && (decide (e11.Flow ≠ (-1))))) then some false else F_l31_SemRises_l1 x7 s1 x7 0)))
theorem c_l31_SemRises (s1 : Switch) (h2 : (Vector Wide 24)) (r : Bool) (h : F_l31_SemRises s1 h2 = some r) : PCon Tryz.prog 5 [rd kSwitch s1, rd (karr 24 kWide) h2] (rd kbool r) := by
  refine PCon.of (Con.intro0 Tryz.func5 rfl Tryz.ntmps5 rfl fun w H => ?_)
  unfold F_l31_SemRises at h
  refine SR <| Ct rfl (op_box 3 rfl rfl (vt rfl)) ?_
  rintro _ ⟨g3, rfl⟩
  refine Ct rfl (op_box 4 rfl rfl (vt rfl)) ?_
  rintro _ ⟨g4, rfl⟩
  refine Ab rfl <| Nl <| AW.seq <| AW.seq ?_
  obtain ⟨x5, hx5, h⟩ := bsome h
  refine Rg <| Ld ty26 3 rfl <| Ac (op_call (xs := [.tmp 10, .const (Value.int IntKind.i64 8)]) (c_pl_Switch _ _ _ hx5) e21 rfl rfl ⟨vt rfl, vk rfl, trivial⟩) rfl <| Ac (op_not rfl rfl (vt rfl)) rfl <| Nl <| Cn rfl (fun hc => ?_) (fun hc => ?_)
  · have h := cond_t hc h
    refine AW.seq ?_
    obtain ⟨x6, hx6, h⟩ := bsome h
    refine Rg <| Cl [] (c_l31_awake _ hx6) e27 rfl <| As rfl <| Nl <| AW.ret ?_
    obtain rfl := si h
    exact ret1 Tryz.results5 rfl (out_tmp rfl)
  · have h := cond_f hc h
    refine AW.skip <| AW.seq ?_
    obtain ⟨x7, hx7, h⟩ := bsome h
    refine Rg <| Ld ty26 3 rfl <| Ld ty44 4 rfl <| Cl [14, 15] (c_sem_Path _ _ _ hx7) e32 rfl <| As rfl <| Nl <| AW.seq <| AW.seq ?_
    obtain ⟨e8, he8, h⟩ := bsome h
    refine Rg <| Md rfl <| Ac (op_len' rfl rfl sl49 (vt rfl)) rfl <| Ac (op_eql rfl rfl (vt rfl) (vk rfl)) rfl <| Md rfl <| Gd rfl (fun hq => op_move (A := rd (ksl kPlace) x7) rfl rfl (vt rfl)) <| Gd rfl (fun hq => op_indexs' rfl rfl sl49 (vgt rfl hq) (vk rfl) (opt_f he8 hq)) <| Gd rfl (fun hq => op_fieldp lPlace_0 rfl rfl fl51_0 (vgt rfl hq)) <| Gd rfl (fun hq => op_loadp rfl rfl ty3 (vgt rfl hq)) <| Gd rfl (fun hq => op_neq rfl rfl (vgt rfl hq) (vk rfl)) <| Ac (op_any rfl rfl (vt rfl) (vt rfl)) rfl <| Nl <| Cn rfl (fun hc => ?_) (fun hc => ?_)
    · have h := cond_t hc h
      refine SR <| Ab rfl <| Nl <| AW.ret ?_
      obtain rfl := si h
      exact ret1 Tryz.results5 rfl (out_tmp rfl)
    · have h := cond_f hc h
      refine AW.skip <| AW.seq ?_
      obtain ⟨x9, hx9, h⟩ := bsome h
      refine Rg <| FdA lSwitch_0 fl26_0 rfl <| Ac (op_index' rfl rfl ar23 (vt rfl) (vk rfl) rfl) rfl <| Ld ty22 3 rfl <| Ld ty44 4 rfl <| Cl [30, 31] (c_first_Find _ _ _ hx9) e34 rfl <| Mt2 rfl <| Ac (op_fst rfl rfl (vt rfl)) rfl <| Ac (op_snd rfl rfl (vt rfl)) rfl <| As rfl <| As rfl <| Nl <| AW.seq <| AW.seq ?_
      obtain ⟨e10, he10, h⟩ := bsome h
      obtain ⟨e11, he11, h⟩ := bsome h
      refine Rg <| Md rfl <| Md rfl <| Gd rfl (fun hq => op_move (A := rd (ksl kPlace) x7) rfl rfl (vt rfl)) <| Gd rfl (fun hq => op_indexs' rfl rfl sl49 (vgt rfl hq) (vk rfl) (opt_t he10 hq)) <| Gd rfl (fun hq => op_fieldp lPlace_1 rfl rfl fl51_1 (vgt rfl hq)) <| Gd rfl (fun hq => op_loadp rfl rfl ty3 (vgt rfl hq)) <| Gd rfl (fun hq => op_move (A := rd (kint .i64) x9.1) rfl rfl (vt rfl)) <| Gd rfl (fun hq => op_neq rfl rfl (vgt rfl hq) (vgt rfl hq)) <| Ac (op_all rfl rfl (vt rfl) (vt rfl)) rfl <| Md rfl <| Gd rfl (fun hq => op_move (A := rd kbool x9.2) rfl rfl (vt rfl)) <| Gd rfl (fun hq => op_not rfl rfl (vgt rfl hq)) <| AOps.consG (OpG.guardX rfl rfl rfl rfl rfl fun hq => op_move (A := rd kbool (!x9.2)) rfl rfl (vgt rfl hq)) <| AOps.consG (OpG.guardN rfl rfl rfl rfl rfl fun hq => op_move (A := rd (ksl kPlace) x7) rfl rfl (vt rfl)) <| AOps.consG (OpG.guardN rfl rfl rfl rfl rfl fun hq => op_indexs' rfl rfl sl49 (vgt rfl hq) (vk rfl) (opt_g he11 hq)) <| AOps.consG (OpG.guardN rfl rfl rfl rfl rfl fun hq => op_fieldp lPlace_1 rfl rfl fl51_1 (vgt rfl hq)) <| AOps.consG (OpG.guardN rfl rfl rfl rfl rfl fun hq => op_loadp rfl rfl ty3 (vgt rfl hq)) <| AOps.consG (OpG.guardN rfl rfl rfl rfl rfl fun hq => op_neq rfl rfl (vgt rfl hq) (vk rfl)) <| Gd rfl (fun hq => op_all rfl rfl (vgx rfl hq) (vgw rfl hq)) <| Ac (op_any rfl rfl (vt rfl) (vt rfl)) rfl <| Nl <| Cn rfl (fun hc => ?_) (fun hc => ?_)
      · have h := cond_t hc h
        refine SR <| Ab rfl <| Nl <| AW.ret ?_
        obtain rfl := si h
        exact ret1 Tryz.results5 rfl (out_tmp rfl)
      · have h := cond_f hc h
        refine AW.skip <| AW.seq <| SR <| Md rfl <| Ac (op_len' rfl rfl sl49 (vt rfl)) rfl <| Mk rfl <| Nl <| AW.block <| AW.loopG (d := []) (ν := (List Place) × Nat) (fun n => Sfx x7 n.2 n.1 ∧ F_l31_SemRises_l1 x7 s1 n.1 n.2 = some r) (fun n => n.1.length) (fun n => [(2, ptrL g3 (Lens.id kSwitch)), (5, rd (ksl kPlace) x7), (55, rd (ksl kPlace) x7), (56, rd (kint .i64) (x7.length : Int)), (57, rd (kint .i64) (n.2 : Int))]) (fun n => [(3, Blk g3 26 kSwitch s1)]) (x7, 0) ⟨Sfx.start _, h⟩ ⟨rfl, ⟨rfl, rfl, rfl, rfl, rfl, trivial⟩, ⟨rfl, trivial⟩⟩ ?_
        rintro ⟨l13, i12⟩ ⟨hsf1, h⟩
        change Sfx x7 i12 l13 at hsf1
        change F_l31_SemRises_l1 x7 s1 l13 i12 = some r at h
        change AW _ _ _ ⟨slots [(2, ptrL g3 (Lens.id kSwitch)), (5, rd (ksl kPlace) x7), (55, rd (ksl kPlace) x7), (56, rd (kint .i64) (x7.length : Int)), (57, rd (kint .i64) (i12 : Int))], ress [(3, Blk g3 26 kSwitch s1)], _⟩
        cases l13 with
        | nil =>
          unfold F_l31_SemRises_l1 at h
          refine SR <| Ac (op_lss rfl rfl (vt rfl) (vt rfl)) rfl <| Nl <| AW.seq <| Cn rfl (fun hc => absurd (of_decide_eq_true hc) hsf1.nil) (fun hc => ?_)
          refine AW.exit <| AW.seq ?_
          obtain ⟨x14, hx14, h⟩ := bsome h
          refine Rg <| Cl [] (c_l31_awake _ hx14) e27 rfl <| As rfl <| Nl <| AW.ret ?_
          obtain rfl := si h
          exact ret1 Tryz.results5 rfl (out_tmp rfl)
        | cons x15 l13 =>
          unfold F_l31_SemRises_l1 at h
          generalize hgo1 : F_l31_SemRises_l1 x7 s1 l13 = go1 at h
          refine SR <| Ac (op_lss rfl rfl (vt rfl) (vt rfl)) rfl <| Nl <| AW.seq <| Cn rfl (fun hc => ?_) (fun hc => absurd hsf1.cons (of_decide_eq_false hc))
          have hlti12 := of_decide_eq_true hc
          refine AW.skip <| AW.seq <| AW.block <| SR <| Md rfl <| Ac (op_indexs' rfl rfl sl49 (vt rfl) (vt rfl) hsf1.lget) rfl <| Lp1 ty51 rfl <| Ct rfl (op_alloc 10 rfl rfl zr51) ?_
          rintro _ ⟨g16, rfl⟩
          refine As rfl <| Sto ty51 10 rfl <| Nl <| AW.seq ?_
          obtain ⟨e17, he17, h⟩ := bsome h
          obtain ⟨e18, he18, h⟩ := bsome h
          obtain ⟨j19, hj19, h⟩ := bsome h
          refine AW.regionAny [⟨[8], [62], [], []⟩, ⟨[62], [63], [], []⟩, ⟨[63], [64], [], []⟩, ⟨[9, 64], [65], [], []⟩, ⟨[65, 64], [66], [10], []⟩, ⟨[5, 64], [67], [], []⟩, ⟨[8, 64], [68], [], []⟩, ⟨[68, 64], [69], [], []⟩, ⟨[67, 69, 64], [70], [], []⟩, ⟨[70, 64], [71], [], []⟩, ⟨[71, 64], [72], [], []⟩, ⟨[66, 72, 64], [73], [], []⟩, ⟨[73, 64], [74], [], []⟩, ⟨[5, 74], [75], [], []⟩, ⟨[8, 74], [76], [], []⟩, ⟨[76, 74], [77], [], []⟩, ⟨[75, 77, 74], [78], [], []⟩, ⟨[78, 74], [79], [], []⟩, ⟨[79, 74], [80], [], []⟩, ⟨[80, 74], [81], [], []⟩, ⟨[81, 74, 64], [82], [], []⟩, ⟨[82, 64], [83], [], []⟩, ⟨[83], [84], [], []⟩, ⟨[9, 84], [85], [], []⟩, ⟨[85, 84], [86], [10], []⟩, ⟨[86, 84], [87], [], []⟩, ⟨[87, 84], [88], [], []⟩, ⟨[88], [89], [], []⟩, ⟨[9, 89], [90], [], []⟩, ⟨[90, 89], [91], [10], []⟩, ⟨[91, 89], [92], [], []⟩, ⟨[92, 89], [93], [], []⟩, ⟨[93], [94], [], []⟩, ⟨[9, 94], [95], [], []⟩, ⟨[95, 94], [96], [10], []⟩, ⟨[9, 94], [97], [], []⟩, ⟨[97, 94], [98], [10], []⟩, ⟨[98, 94], [99], [], []⟩, ⟨[99, 94], [100], [], []⟩, ⟨[2, 94], [101], [], []⟩, ⟨[101, 100, 94], [102], [], []⟩, ⟨[102, 94], [103], [3], []⟩, ⟨[103, 94], [104], [], []⟩, ⟨[96, 104, 94], [105], [], []⟩, ⟨[105, 94], [106], [], []⟩] mixed (by kernel_rfl) <| SMd rfl <| Sc (lo [62] [] rfl fun S hs hr => op_gtr rfl rfl (vh hs 62 rfl rfl) (vk rfl)) rfl <| SMd rfl <| Sc (lg [9, 64] [] rfl fun hq S hs hr => op_field lPlace_0 rfl rfl fl51_0 (vh hs 9 rfl rfl)) rfl <| Sc (lg [65, 64] [10] rfl fun hq S hs hr => op_load rfl rfl ty3 (vgt ((hs 65 rfl).trans rfl) hq) (i := 10) ((hr 10 rfl).trans rfl)) rfl <| Sc (lg [5, 64] [] rfl fun hq S hs hr => op_move (A := rd (ksl kPlace) x7) rfl rfl (vh hs 5 rfl rfl)) rfl <| Sc (lg [8, 64] [] rfl fun hq S hs hr => op_move (A := rd (kint .i64) (i12 : Int)) rfl rfl (vh hs 8 rfl rfl)) rfl <| Sc (lg [68, 64] [] rfl fun hq S hs hr => op_sub rfl rfl (vgt ((hs 68 rfl).trans rfl) hq) (vk rfl)) rfl <| Sc (lg [67, 69, 64] [] rfl fun hq S hs hr => op_indexs' rfl rfl sl49 (vgt ((hs 67 rfl).trans rfl) hq) (vgt ((hs 69 rfl).trans rfl) hq) (opt_t he17 hq)) rfl <| Sc (lg [70, 64] [] rfl fun hq S hs hr => op_fieldp lPlace_0 rfl rfl fl51_0 (vgt ((hs 70 rfl).trans rfl) hq)) rfl <| Sc (lg [71, 64] [] rfl fun hq S hs hr => op_loadp rfl rfl ty3 (vgt ((hs 71 rfl).trans rfl) hq)) rfl <| Sc (lg [66, 72, 64] [] rfl fun hq S hs hr => op_leq rfl rfl (vgt ((hs 66 rfl).trans rfl) hq) (vgt ((hs 72 rfl).trans rfl) hq)) rfl <| Sc (locgX [73, 64] [] rfl rfl rfl rfl rfl rfl rfl fun hq S hs hr => op_move (A := rd kbool (decide (x15.Table ≤ e17.Table))) rfl rfl (vgt ((hs 73 rfl).trans rfl) hq)) rfl <| Sc (locgN [5, 74] [] rfl rfl rfl rfl rfl rfl rfl fun hq S hs hr => op_move (A := rd (ksl kPlace) x7) rfl rfl (vh hs 5 rfl rfl)) rfl <| Sc (locgN [8, 74] [] rfl rfl rfl rfl rfl rfl rfl fun hq S hs hr => op_move (A := rd (kint .i64) (i12 : Int)) rfl rfl (vh hs 8 rfl rfl)) rfl <| Sc (locgN [76, 74] [] rfl rfl rfl rfl rfl rfl rfl fun hq S hs hr => op_sub rfl rfl (vgt ((hs 76 rfl).trans rfl) hq) (vk rfl)) rfl <| Sc (locgN [75, 77, 74] [] rfl rfl rfl rfl rfl rfl rfl fun hq S hs hr => op_indexs' rfl rfl sl49 (vgt ((hs 75 rfl).trans rfl) hq) (vgt ((hs 77 rfl).trans rfl) hq) (opt_g he18 hq)) rfl ?_
          refine Sc (locgN [78, 74] [] rfl rfl rfl rfl rfl rfl rfl fun hq S hs hr => op_fieldp lPlace_1 rfl rfl fl51_1 (vgt ((hs 78 rfl).trans rfl) hq)) rfl <| Sc (locgN [79, 74] [] rfl rfl rfl rfl rfl rfl rfl fun hq S hs hr => op_loadp rfl rfl ty3 (vgt ((hs 79 rfl).trans rfl) hq)) rfl <| Sc (locgN [80, 74] [] rfl rfl rfl rfl rfl rfl rfl fun hq S hs hr => op_lss rfl rfl (vgt ((hs 80 rfl).trans rfl) hq) (vk rfl)) rfl <| Sc (lg [81, 74, 64] [] rfl fun hq S hs hr => op_any rfl rfl (vgx ((hs 74 rfl).trans rfl) hq) (vgw ((hs 81 rfl).trans rfl) hq)) rfl <| Sc (lo [82, 64] [] rfl fun S hs hr => op_all rfl rfl (vh hs 64 rfl rfl) (vh hs 82 rfl rfl)) rfl <| SMd rfl <| Sc (lg [9, 84] [] rfl fun hq S hs hr => op_field lPlace_0 rfl rfl fl51_0 (vh hs 9 rfl rfl)) rfl <| Sc (lg [85, 84] [10] rfl fun hq S hs hr => op_load rfl rfl ty3 (vgt ((hs 85 rfl).trans rfl) hq) (i := 10) ((hr 10 rfl).trans rfl)) rfl <| Sc (lg [86, 84] [] rfl fun hq S hs hr => op_geq rfl rfl (vgt ((hs 86 rfl).trans rfl) hq) (vk rfl)) rfl <| Sc (lo [87, 84] [] rfl fun S hs hr => op_any rfl rfl (vh hs 84 rfl rfl) (vh hs 87 rfl rfl)) rfl <| SMd rfl <| Sc (lg [9, 89] [] rfl fun hq S hs hr => op_field lPlace_1 rfl rfl fl51_1 (vh hs 9 rfl rfl)) rfl <| Sc (lg [90, 89] [10] rfl fun hq S hs hr => op_load rfl rfl ty3 (vgt ((hs 90 rfl).trans rfl) hq) (i := 10) ((hr 10 rfl).trans rfl)) rfl <| Sc (lg [91, 89] [] rfl fun hq S hs hr => op_lss rfl rfl (vgt ((hs 91 rfl).trans rfl) hq) (vk rfl)) rfl <| Sc (lo [92, 89] [] rfl fun S hs hr => op_any rfl rfl (vh hs 89 rfl rfl) (vh hs 92 rfl rfl)) rfl <| SMd rfl <| Sc (lg [9, 94] [] rfl fun hq S hs hr => op_field lPlace_1 rfl rfl fl51_1 (vh hs 9 rfl rfl)) rfl <| Sc (lg [95, 94] [10] rfl fun hq S hs hr => op_load rfl rfl ty3 (vgt ((hs 95 rfl).trans rfl) hq) (i := 10) ((hr 10 rfl).trans rfl)) rfl <| Sc (lg [9, 94] [] rfl fun hq S hs hr => op_field lPlace_0 rfl rfl fl51_0 (vh hs 9 rfl rfl)) rfl <| Sc (lg [97, 94] [10] rfl fun hq S hs hr => op_load rfl rfl ty3 (vgt ((hs 97 rfl).trans rfl) hq) (i := 10) ((hr 10 rfl).trans rfl)) rfl <| Sc (lg [98, 94] [] rfl fun hq S hs hr => op_min rfl rfl (vgt ((hs 98 rfl).trans rfl) hq) (vk rfl)) rfl <| Sc (lg [99, 94] [] rfl fun hq S hs hr => op_max rfl rfl (vgt ((hs 99 rfl).trans rfl) hq) (vk rfl)) rfl <| Sc (lg [2, 94] [] rfl fun hq S hs hr => op_field lSwitch_0 rfl rfl fl26_0 (vh hs 2 rfl rfl)) rfl <| Sc (lg [101, 100, 94] [] rfl fun hq S hs hr => op_index' rfl rfl ar23 (vgt ((hs 101 rfl).trans rfl) hq) (vgt ((hs 100 rfl).trans rfl) hq) (opt_f hj19 hq)) rfl <| Sc (lg [102, 94] [3] rfl fun hq S hs hr => op_load rfl rfl ty22 (vgt ((hs 102 rfl).trans rfl) hq) (i := 3) ((hr 3 rfl).trans rfl)) rfl <| Sc (lg [103, 94] [] rfl fun hq S hs hr => op_len' rfl rfl sl22 (vgt ((hs 103 rfl).trans rfl) hq)) rfl <| Sc (lg [96, 104, 94] [] rfl fun hq S hs hr => op_geq rfl rfl (vgt ((hs 96 rfl).trans rfl) hq) (vgt ((hs 104 rfl).trans rfl) hq)) rfl <| Sc (lo [105, 94] [] rfl fun S hs hr => op_any rfl rfl (vh hs 94 rfl rfl) (vh hs 105 rfl rfl)) rfl <| Cn rfl (fun hc => ?_) (fun hc => ?_)
          · have h := cond_t hc h
            refine SR <| Ab rfl <| Nl <| AW.ret ?_
            obtain rfl := si h
            exact ret1 Tryz.results5 rfl (out_tmp rfl)
          · have h := cond_f hc h
            refine AW.skip <| Rg <| Ac (op_incr (t := 56) rfl rfl (vt rfl) (vk rfl) (vt rfl) hlti12) rfl <| Md rfl <| Nl ?_
            subst hgo1
            exact ⟨(l13, i12 + 1), Nat.lt_succ_self _, ⟨hsf1.next, h⟩, ⟨rfl, ⟨rfl, rfl, rfl, rfl, rfl, trivial⟩, ⟨rfl, trivial⟩⟩⟩
end Go.Proofs.YtknpgojdkobgjaaGreat.W
