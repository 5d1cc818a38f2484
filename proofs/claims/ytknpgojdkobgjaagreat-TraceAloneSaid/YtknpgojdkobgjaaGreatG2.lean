/- A part of the proof. -/
import Derived.Test.YtknpgojdkobgjaaGreatG1
set_option linter.unusedVariables false
set_option maxRecDepth 4000
set_option linter.unusedSimpArgs false
namespace Go.Proofs.YtknpgojdkobgjaaGreat.W
open Go Go.Wb
theorem e130 : Ent Tryz.prog 130 := Ent.mk Tryz.func130 rfl rfl
theorem e129 : Ent Tryz.prog 129 := Ent.mk Tryz.func129 rfl rfl
theorem e29 : Ent Tryz.prog 29 := Ent.mk Tryz.func29 rfl rfl
theorem e72 : Ent Tryz.prog 72 := Ent.mk Tryz.func72 rfl rfl
theorem e161 : Ent Tryz.prog 161 := Ent.mk Tryz.func161 rfl rfl
theorem e92 : Ent Tryz.prog 92 := Ent.mk Tryz.func92 rfl rfl
theorem e93 : Ent Tryz.prog 93 := Ent.mk Tryz.func93 rfl rfl
theorem e158 : Ent Tryz.prog 158 := Ent.mk Tryz.func158 rfl rfl
theorem e230 : Ent Tryz.prog 230 := Ent.mk Tryz.func230 rfl rfl
def F_links_Next (n1 : Net) (at2 : Int) (port3 : Int) : Option (Int × Int × Bool) :=
  (F_slices_IndexFunc_Link n1.Links (fun x => F_links_Next_1 x at2 port3 n1)).bind fun x7 => (bif (decide (x7 < 0)) then some (0, 0, false) else (lget n1.Links x7).bind fun e8 => (lget n1.Links x7).bind fun e9 => some (e8.To, e9.In, true))
theorem c_links_Next (n1 : Net) (at2 : Int) (port3 : Int) (r : (Int × Int × Bool)) (h : F_links_Next n1 at2 port3 = some r) : PCon Tryz.prog 72 [rd kNet n1, rd (kint .i64) at2, rd (kint .i64) port3] (tup3 (rd (kint .i64) r.1) (rd (kint .i64) r.2.1) (rd kbool r.2.2)) := by
  refine PCon.of (Con.intro0 Tryz.func72 rfl Tryz.ntmps72 rfl fun w H => ?_)
  unfold F_links_Next at h
  refine SR <| Ct rfl (op_box 4 rfl rfl (vt rfl)) ?_
  rintro _ ⟨g4, rfl⟩
  refine Ct rfl (op_box 5 rfl rfl (vt rfl)) ?_
  rintro _ ⟨g5, rfl⟩
  refine Ct rfl (op_box 6 rfl rfl (vt rfl)) ?_
  rintro _ ⟨g6, rfl⟩
  refine Ak rfl <| Ak rfl <| Ab rfl <| Nl <| AW.seq <| AW.freezeB 4 5 rfl rfl rfl <| AW.freezeB 5 6 rfl rfl rfl <| AW.freezeB 3 4 rfl rfl rfl ?_
  obtain ⟨x7, hx7, h⟩ := bsome h
  refine Rg <| Fp lNet_1 fl67_1 rfl <| Lp1 ty65 rfl <| Ac (op_fn1 (cs := [.tmp 4, .tmp 5, .tmp 3]) (CAs := [rp (kint .i64) at2, rp (kint .i64) port3, rp kNet n1]) (fun x => F_links_Next_1 x at2 port3 n1) rfl rfl e130 ⟨vt rfl, vt rfl, vt rfl, trivial⟩ (fun x y h => c_links_Next_1 _ _ _ _ y h)) rfl <| Cl [11, 12] (c_slices_IndexFunc_Link _ _ _ hx7) e129 rfl <| As rfl <| Nl <| AW.seq <| SR <| Md rfl <| Ac (op_lss rfl rfl (vt rfl) (vk rfl)) rfl <| Nl <| Cn rfl (fun hc => ?_) (fun hc => ?_)
  · have h := cond_t hc h
    refine SR <| Ak rfl <| Ak rfl <| Ab rfl <| Nl <| AW.ret ?_
    obtain rfl := si h
    exact ret3 Tryz.results72 rfl (out_tmp rfl) (out_tmp rfl) (out_tmp rfl)
  · have h := cond_f hc h
    refine AW.skip <| AW.seq ?_
    obtain ⟨e8, he8, h⟩ := bsome h
    obtain ⟨e9, he9, h⟩ := bsome h
    refine AW.regionAny [⟨[3], [16], [], []⟩, ⟨[16], [17], [], []⟩, ⟨[9], [18], [], []⟩, ⟨[17, 18], [19], [], []⟩, ⟨[19], [20], [], []⟩, ⟨[20], [21], [], []⟩, ⟨[3], [22], [], []⟩, ⟨[22], [23], [], []⟩, ⟨[9], [24], [], []⟩, ⟨[23, 24], [25], [], []⟩, ⟨[25], [26], [], []⟩, ⟨[26], [27], [], []⟩, ⟨[21], [6], [], []⟩, ⟨[27], [7], [], []⟩, ⟨[], [8], [], []⟩] mixed (by kernel_rfl) <| SFp lNet_1 fl67_1 rfl <| SLp ty65 rfl <| SMd rfl <| Sc (lo [17, 18] [] rfl fun S hs hr => op_indexs' rfl rfl sl65 (vh hs 17 rfl rfl) (vh hs 18 rfl rfl) he8) rfl <| SFp lLink_2 fl152_2 rfl <| SLp ty3 rfl <| SFp lNet_1 fl67_1 rfl <| SLp ty65 rfl <| SMd rfl <| Sc (lo [23, 24] [] rfl fun S hs hr => op_indexs' rfl rfl sl65 (vh hs 23 rfl rfl) (vh hs 24 rfl rfl) he9) rfl <| SFp lLink_3 fl152_3 rfl <| SLp ty3 rfl <| SAs rfl <| SAs rfl <| Sc (lo [] [] rfl fun S hs hr => op_assign (A := rd kbool true) rfl rfl vb) rfl <| AW.ret ?_
    obtain rfl := si h
    exact ret3 Tryz.results72 rfl (out_tmp rfl) (out_tmp rfl) (out_tmp rfl)
def F_header_Set (h1 : (Vector Wide 24)) (f2 : Int) (v3 : Wide) : Option (Vector Wide 24) :=
  (bif ((decide (f2 ≥ 0)) && (decide (f2 < 24))) then (chk 24 f2).bind fun j7 => some (Vector.set h1 j7.1 v3 j7.2) else some h1)
theorem c_header_Set (h1 : (Vector Wide 24)) (f2 : Int) (v3 : Wide) (r : (Vector Wide 24)) (h : F_header_Set h1 f2 v3 = some r) : PCon Tryz.prog 161 [rd (karr 24 kWide) h1, rd (kint .i64) f2, rd kWide v3] (rd (karr 24 kWide) r) := by
  refine PCon.of (Con.intro0 Tryz.func161 rfl Tryz.ntmps161 rfl fun w H => ?_)
  unfold F_header_Set at h
  refine SR <| Ct rfl (op_box 4 rfl rfl (vt rfl)) ?_
  rintro _ ⟨g4, rfl⟩
  refine Ct rfl (op_box 6 rfl rfl (vt rfl)) ?_
  rintro _ ⟨g5, rfl⟩
  refine Ct rfl (op_alloc 7 rfl rfl zr44) ?_
  rintro _ ⟨g6, rfl⟩
  refine Nl <| AW.seq <| SR <| Md rfl <| Ac (op_geq rfl rfl (vt rfl) (vk rfl)) rfl <| Md rfl <| Gd rfl (fun hq => op_move (A := rd (kint .i64) f2) rfl rfl (vt rfl)) <| Gd rfl (fun hq => op_lss rfl rfl (vgt rfl hq) (vk rfl)) <| Ac (op_all rfl rfl (vt rfl) (vt rfl)) rfl <| Nl <| Cn rfl (fun hc => ?_) (fun hc => ?_)
  · have h := cond_t hc h
    obtain ⟨j7, hj7, h⟩ := bsome h
    refine Rg <| Md rfl <| Ld ty42 6 rfl <| Ac (op_index' rfl rfl ar44 (vt rfl) (vt rfl) hj7) rfl <| Sto ty42 4 rfl <| Nl <| SR <| Ld ty44 4 rfl <| Sto ty44 7 rfl <| Nl <| AW.ret ?_
    obtain rfl := si h
    exact ret1 Tryz.results161 rfl (out_cell rfl (i := 7) rfl ty44)
  · have h := cond_f hc h
    refine AW.skip <| SR <| Ld ty44 4 rfl <| Sto ty44 7 rfl <| Nl <| AW.ret ?_
    obtain rfl := si h
    exact ret1 Tryz.results161 rfl (out_cell rfl (i := 7) rfl ty44)
def F_trace_trip_on_s_l1 (at4 : Int) (R_trace_trip_on : (trace_trip → Int → (Vector Wide 24) → Int → Option trace_trip)) (left6 : Int) : (List Out) → Nat → (List End) → Net → Env → Option trace_trip
  | [], i20, l16, b18, b19 => some (⟨b18, b19, l16⟩ : trace_trip)
  | x22 :: l21, i20, l16, b18, b19 => (F_links_Next b18 at4 x22.Port).bind fun x24 => (bif (!x24.2.2) then (appd l16 [(⟨at4, x22.Port, x22.Max, true, x22.Header⟩ : End)]).bind fun l25 => (F_trace_trip_on_s_l1 at4 R_trace_trip_on left6 l21) (i20 + 1) l25 b18 b19 else (F_header_Set x22.Header 0 (⟨0, (BitVec.ofInt 64 x24.2.1)⟩ : Wide)).bind fun x27 => (R_trace_trip_on (⟨b18, b19, l16⟩ : trace_trip) x24.1 x27 (IntKind.i64.wrap (left6 - 1))).bind fun b28 => (F_trace_trip_on_s_l1 at4 R_trace_trip_on left6 l21) (i20 + 1) b28.ends b28.Net b28.env)
def F_trace_trip_on_s (R_trace_trip_on : (trace_trip → Int → (Vector Wide 24) → Int → Option trace_trip)) (t1 : trace_trip) (at4 : Int) (h5 : (Vector Wide 24)) (left6 : Int) : Option trace_trip :=
  (bif (decide (left6 = 0)) then (appd t1.ends [(⟨at4, 0, 0, false, h5⟩ : End)]).bind fun l8 => some (⟨t1.Net, t1.env, l8⟩ : trace_trip) else (lget t1.Net.Switches at4).bind fun e10 => (F_sem_Out e10 t1.env h5).bind fun x11 => F_trace_trip_on_s_l1 at4 R_trace_trip_on left6 x11 0 t1.ends t1.Net t1.env)
theorem c_trace_trip_on_s (R_trace_trip_on : (trace_trip → Int → (Vector Wide 24) → Int → Option trace_trip)) (hR_trace_trip_on : ∀ (g2 gT : Nat) (t1 : trace_trip) (at4 : Int) (h5 : (Vector Wide 24)) (left6 : Int) (r : trace_trip), R_trace_trip_on t1 at4 h5 left6 = some r → Con Tryz.prog 92 [ptrL g2 (Lens.id ktrace_trip_o2), rd (kint .i64) at4, rd (karr 24 kWide) h5, rd (kint .i64) left6] (BoxF g2 gT ktrace_trip_o2 (fun v => (⟨t1.Net, t1.env, v⟩ : trace_trip_o2)) 69 kEnd t1.ends) (fun _ : Unit => top) (fun _ => BoxF g2 gT ktrace_trip_o2 (fun v => (⟨r.Net, r.env, v⟩ : trace_trip_o2)) 69 kEnd r.ends)) (g2 gT : Nat) (t1 : trace_trip) (at4 : Int) (h5 : (Vector Wide 24)) (left6 : Int) (r : trace_trip) (h : F_trace_trip_on_s R_trace_trip_on t1 at4 h5 left6 = some r) : Con Tryz.prog 92 [ptrL g2 (Lens.id ktrace_trip_o2), rd (kint .i64) at4, rd (karr 24 kWide) h5, rd (kint .i64) left6] (BoxF g2 gT ktrace_trip_o2 (fun v => (⟨t1.Net, t1.env, v⟩ : trace_trip_o2)) 69 kEnd t1.ends) (fun _ : Unit => top) (fun _ => BoxF g2 gT ktrace_trip_o2 (fun v => (⟨r.Net, r.env, v⟩ : trace_trip_o2)) 69 kEnd r.ends) := by
  refine Con.intro Tryz.func92 rfl Tryz.ntmps92 rfl fun w H X => ?_
  unfold F_trace_trip_on_s at h
  refine AW.unboxF 0 2002 (by decide) rfl rfl fun v3 => SR <| Ct rfl (op_box 7 rfl rfl (vt rfl)) ?_
  rintro _ ⟨g7, rfl⟩
  refine Nl <| AW.scope <| AW.seq <| SR <| Md rfl <| Ac (op_eql rfl rfl (vt rfl) (vk rfl)) rfl <| Nl <| Cn rfl (fun hc => ?_) (fun hc => ?_)
  · have h := cond_t hc h
    refine AW.seq ?_
    obtain ⟨l8, hl8, h⟩ := bsome h
    refine AW.regionAny [⟨[0], [15], [], []⟩, ⟨[0], [16], [], []⟩, ⟨[16], [17], [], []⟩, ⟨[17], [18], [], []⟩, ⟨[18], [19], [0], []⟩, ⟨[1], [20], [], []⟩, ⟨[6], [21], [7], []⟩, ⟨[20, 21], [22], [], []⟩, ⟨[22], [23], [], []⟩, ⟨[19, 23], [24], [2002], [2002]⟩, ⟨[15], [25], [], []⟩, ⟨[25], [26], [], []⟩, ⟨[26, 24], [24], [0], [0]⟩] mixed (by kernel_rfl) <| SMp rfl <| SMp rfl <| SNc rfl <| SFd ltrace_trip_o2_2 flv156_2_2 rfl <| Sc (lo [18] [0] rfl fun S hs hr => op_loadv v3 rfl rfl tyr62 (vh hs 18 rfl rfl) (i := 0) ((hr 0 rfl).trans rfl) rfl) rfl <| SMd rfl <| SLd ty44 7 rfl <| Sc (lo [20, 21] [] rfl fun S hs hr => op_build (ps := [(0, .tmp 20), (4, .tmp 21)]) (x := (⟨at4, 0, 0, false, h5⟩ : End)) rfl rfl rfl (by kernel_rfl) zr69 ⟨_, _, lEnd_0, _, by kernel_rfl, (vh hs 20 rfl rfl), _, _, lEnd_4, _, by kernel_rfl, (vh hs 21 rfl rfl), rfl⟩) rfl <| Sc (lo [22] [] rfl fun S hs hr => op_buildSliceR (ps := [(0, .tmp 22)]) (l := [(⟨at4, 0, 0, false, h5⟩ : End)]) rfl rfl sl62 zr69 rfl rfl ⟨_, _, Lens.idx 1 kEnd 0 (by decide), _, rfl, (vh hs 22 rfl rfl), rfl⟩ rfl) rfl <| Sc (locs (us := [(24, ownR 69 kEnd l8)]) (ur := [(2002, emp)]) [19, 23] [2002] rfl fun S hs hr => op_appendO 2002 hl8 rfl rfl rfl el62 (vh hs 19 rfl rfl) ((hr 2002 rfl).trans rfl) (vh hs 23 rfl rfl)) rfl <| SNc rfl <| SFd ltrace_trip_o2_2 flv156_2_2 rfl <| Sc (locs (us := [(24, top)]) (ur := [(0, BoxF g2 gT ktrace_trip_o2 (fun v => ((Lens.comp (Lens.id ktrace_trip_o2) ltrace_trip_o2_2)).set (⟨t1.Net, t1.env, v3⟩ : trace_trip_o2) v) 69 kEnd l8)]) [26, 24] [0] rfl fun S hs hr => op_storeR rfl rfl tyr62 (vh hs 26 rfl rfl) ((hr 0 rfl).trans rfl) ((hs 24 rfl).trans rfl)) rfl <| AW.unboxF 0 2002 (by decide) rfl rfl fun v9 => AW.ret ?_
    obtain rfl := si h
    exact RetOK.turn (Turn.packF 0 2002 (fun v => (⟨t1.Net, t1.env, v⟩ : trace_trip_o2)) (by decide) rfl rfl) (ret0Y (i := 0) Tryz.results92 rfl rfl)
  · have h := cond_f hc h
    refine AW.skip <| AW.seq <| AW.label <| AW.seq ?_
    obtain ⟨e10, he10, h⟩ := bsome h
    obtain ⟨x11, hx11, h⟩ := bsome h
    refine AW.regionAny [⟨[0], [27], [], []⟩, ⟨[27], [28], [], []⟩, ⟨[28], [29], [], []⟩, ⟨[29], [30], [], []⟩, ⟨[30], [31], [0], []⟩, ⟨[1], [32], [], []⟩, ⟨[31, 32], [33], [], []⟩, ⟨[33], [34], [], []⟩, ⟨[0], [35], [], []⟩, ⟨[35], [36], [], []⟩, ⟨[36], [37], [], []⟩, ⟨[37], [38], [0], []⟩, ⟨[6], [39], [7], []⟩, ⟨[34, 38, 39], [40], [], []⟩, ⟨[40], [41], [], []⟩, ⟨[], [42], [], []⟩] mixed (by kernel_rfl) <| SMp rfl <| SNc rfl <| SFd ltrace_trip_o2_0 flv156_0_2 rfl <| SFd lNet_0 fl67_0 rfl <| SLd ty64 0 rfl <| SMd rfl <| Sc (lo [31, 32] [] rfl fun S hs hr => op_indexs' rfl rfl sl64 (vh hs 31 rfl rfl) (vh hs 32 rfl rfl) he10) rfl <| SLp ty26 rfl <| SMp rfl <| SNc rfl <| SFd ltrace_trip_o2_1 flv156_1_2 rfl <| SLd ty39 0 rfl <| SLd ty44 7 rfl <| SCl [34, 38, 39] (c_sem_Out _ _ _ _ hx11) e29 rfl <| Sc (lo [40] [] rfl fun S hs hr => op_len' rfl rfl sl46 (vh hs 40 rfl rfl)) rfl <| Sc (lo [] [] rfl fun S hs hr => op_move (A := rd (kint .i64) 0) rfl rfl (vk rfl)) rfl <| AW.block <| AW.loopG (d := []) (ν := (List Out) × Nat × (List End) × Net × Env × Value) (fun n => Sfx x11 n.2.1 n.1 ∧ F_trace_trip_on_s_l1 at4 R_trace_trip_on left6 n.1 n.2.1 n.2.2.1 n.2.2.2.1 n.2.2.2.2.1 = some r) (fun n => n.1.length) (fun n => [(0, ptrL g2 (Lens.id ktrace_trip_o2)), (1, rd (kint .i64) at4), (3, rd (kint .i64) left6), (40, rd (ksl kOut) x11), (41, rd (kint .i64) (x11.length : Int)), (42, rd (kint .i64) (n.2.1 : Int))]) (fun n => [(0, Blk g2 gT ktrace_trip_o2 (⟨n.2.2.2.1, n.2.2.2.2.1, n.2.2.2.2.2⟩ : trace_trip_o2)), (2002, Row n.2.2.2.2.2 69 kEnd n.2.2.1)]) (x11, 0, t1.ends, t1.Net, t1.env, v3) ⟨Sfx.start _, h⟩ ⟨rfl, ⟨rfl, rfl, rfl, rfl, rfl, rfl, trivial⟩, ⟨rfl, rfl, trivial⟩⟩ ?_
    rintro ⟨l21, i20, l16, b18, b19, v17⟩ ⟨hsf1, h⟩
    change Sfx x11 i20 l21 at hsf1
    change F_trace_trip_on_s_l1 at4 R_trace_trip_on left6 l21 i20 l16 b18 b19 = some r at h
    change AW _ _ _ ⟨slots [(0, ptrL g2 (Lens.id ktrace_trip_o2)), (1, rd (kint .i64) at4), (3, rd (kint .i64) left6), (40, rd (ksl kOut) x11), (41, rd (kint .i64) (x11.length : Int)), (42, rd (kint .i64) (i20 : Int))], ress [(0, Blk g2 gT ktrace_trip_o2 (⟨b18, b19, v17⟩ : trace_trip_o2)), (2002, Row v17 69 kEnd l16)], _⟩
    cases l21 with
    | nil =>
      unfold F_trace_trip_on_s_l1 at h
      refine SR <| Ac (op_lss rfl rfl (vt rfl) (vt rfl)) rfl <| Nl <| AW.seq <| Cn rfl (fun hc => absurd (of_decide_eq_true hc) hsf1.nil) (fun hc => ?_)
      refine AW.exit ?_
      obtain rfl := si h
      exact RetOK.turn (Turn.packF 0 2002 (fun v => (⟨b18, b19, v⟩ : trace_trip_o2)) (by decide) rfl rfl) (ret0Y (i := 0) Tryz.results92 rfl rfl)
    | cons x22 l21 =>
      unfold F_trace_trip_on_s_l1 at h
      generalize hgo1 : F_trace_trip_on_s_l1 at4 R_trace_trip_on left6 l21 = go1 at h
      refine SR <| Ac (op_lss rfl rfl (vt rfl) (vt rfl)) rfl <| Nl <| AW.seq <| Cn rfl (fun hc => ?_) (fun hc => absurd hsf1.cons (of_decide_eq_false hc))
      have hlti20 := of_decide_eq_true hc
      refine AW.skip <| AW.seq <| AW.block <| SR <| Ac (op_indexs' rfl rfl sl46 (vt rfl) (vt rfl) hsf1.lget) rfl <| Lp1 ty71 rfl <| Ct rfl (op_alloc 10 rfl rfl zr71) ?_
      rintro _ ⟨g23, rfl⟩
      refine Sto ty71 10 rfl <| Nl <| AW.seq ?_
      obtain ⟨x24, hx24, h⟩ := bsome h
      refine AW.regionAny [⟨[0], [47], [], []⟩, ⟨[47], [48], [], []⟩, ⟨[48], [49], [], []⟩, ⟨[49], [50], [0], []⟩, ⟨[1], [51], [], []⟩, ⟨[9], [52], [], []⟩, ⟨[52], [53], [10], []⟩, ⟨[50, 51, 53], [54], [], []⟩, ⟨[54], [46], [], []⟩, ⟨[46], [55], [], []⟩, ⟨[46], [56], [], []⟩, ⟨[46], [57], [], []⟩, ⟨[55], [10], [], []⟩, ⟨[56], [11], [], []⟩, ⟨[57], [12], [], []⟩] mixed (by kernel_rfl) <| SMp rfl <| SNc rfl <| SFd ltrace_trip_o2_0 flv156_0_2 rfl <| SLd ty67 0 rfl <| SMd rfl <| SFd lOut_0 fl71_0 rfl <| SLd ty3 10 rfl <| SCl [50, 51, 53] (c_links_Next _ _ _ _ hx24) e72 rfl <| Sc (lo [54] [] rfl fun S hs hr => op_move (A := tup3 (rd (kint .i64) x24.1) (rd (kint .i64) x24.2.1) (rd kbool x24.2.2)) rfl rfl (vh hs 54 rfl rfl)) rfl <| Sc (lo [46] [] rfl fun S hs hr => op_ext3_0 rfl rfl (vh hs 46 rfl rfl)) rfl <| Sc (lo [46] [] rfl fun S hs hr => op_ext3_1 rfl rfl (vh hs 46 rfl rfl)) rfl <| Sc (lo [46] [] rfl fun S hs hr => op_ext3_2 rfl rfl (vh hs 46 rfl rfl)) rfl <| SAs rfl <| SAs rfl <| SAs rfl <| AW.seq <| SR <| Md rfl <| Ac (op_not rfl rfl (vt rfl)) rfl <| Nl <| Cn rfl (fun hc => ?_) (fun hc => ?_)
      · have h := cond_t hc h
        refine AW.seq ?_
        obtain ⟨l25, hl25, h⟩ := bsome h
        refine AW.regionAny [⟨[0], [60], [], []⟩, ⟨[0], [61], [], []⟩, ⟨[61], [62], [], []⟩, ⟨[62], [63], [], []⟩, ⟨[63], [64], [0], []⟩, ⟨[1], [65], [], []⟩, ⟨[9], [66], [], []⟩, ⟨[66], [67], [10], []⟩, ⟨[9], [68], [], []⟩, ⟨[68], [69], [10], []⟩, ⟨[9], [70], [], []⟩, ⟨[70], [71], [10], []⟩, ⟨[65, 67, 69, 71], [72], [], []⟩, ⟨[72], [73], [], []⟩, ⟨[64, 73], [74], [2002], [2002]⟩, ⟨[60], [75], [], []⟩, ⟨[75], [76], [], []⟩, ⟨[76, 74], [74], [0], [0]⟩] mixed (by kernel_rfl) <| SMp rfl <| SMp rfl <| SNc rfl <| SFd ltrace_trip_o2_2 flv156_2_2 rfl <| Sc (lo [63] [0] rfl fun S hs hr => op_loadv v17 rfl rfl tyr62 (vh hs 63 rfl rfl) (i := 0) ((hr 0 rfl).trans rfl) rfl) rfl <| SMd rfl <| SFd lOut_0 fl71_0 rfl <| SLd ty3 10 rfl <| SFd lOut_1 fl71_1 rfl <| SLd ty3 10 rfl <| SFd lOut_2 fl71_2 rfl <| SLd ty44 10 rfl <| Sc (lo [65, 67, 69, 71] [] rfl fun S hs hr => op_build (ps := [(0, .tmp 65), (1, .tmp 67), (2, .tmp 69), (3, .const (Value.bool true)), (4, .tmp 71)]) (x := (⟨at4, x22.Port, x22.Max, true, x22.Header⟩ : End)) rfl rfl rfl (by kernel_rfl) zr69 ⟨_, _, lEnd_0, _, by kernel_rfl, (vh hs 65 rfl rfl), _, _, lEnd_1, _, by kernel_rfl, (vh hs 67 rfl rfl), _, _, lEnd_2, _, by kernel_rfl, (vh hs 69 rfl rfl), _, _, lEnd_3, _, by kernel_rfl, vb, _, _, lEnd_4, _, by kernel_rfl, (vh hs 71 rfl rfl), rfl⟩) rfl <| Sc (lo [72] [] rfl fun S hs hr => op_buildSliceR (ps := [(0, .tmp 72)]) (l := [(⟨at4, x22.Port, x22.Max, true, x22.Header⟩ : End)]) rfl rfl sl62 zr69 rfl rfl ⟨_, _, Lens.idx 1 kEnd 0 (by decide), _, rfl, (vh hs 72 rfl rfl), rfl⟩ rfl) rfl <| Sc (locs (us := [(74, ownR 69 kEnd l25)]) (ur := [(2002, emp)]) [64, 73] [2002] rfl fun S hs hr => op_appendO 2002 hl25 rfl rfl rfl el62 (vh hs 64 rfl rfl) ((hr 2002 rfl).trans rfl) (vh hs 73 rfl rfl)) rfl <| SNc rfl <| SFd ltrace_trip_o2_2 flv156_2_2 rfl <| Sc (locs (us := [(74, top)]) (ur := [(0, BoxF g2 gT ktrace_trip_o2 (fun v => ((Lens.comp (Lens.id ktrace_trip_o2) ltrace_trip_o2_2)).set (⟨b18, b19, v17⟩ : trace_trip_o2) v) 69 kEnd l25)]) [76, 74] [0] rfl fun S hs hr => op_storeR rfl rfl tyr62 (vh hs 76 rfl rfl) ((hr 0 rfl).trans rfl) ((hs 74 rfl).trans rfl)) rfl <| AW.unboxF 0 2002 (by decide) rfl rfl fun v26 => AW.exit <| Rg <| Ac (op_incr (t := 41) rfl rfl (vt rfl) (vk rfl) (vt rfl) hlti20) rfl <| Md rfl <| Nl ?_
        subst hgo1
        exact ⟨(l21, i20 + 1, l25, b18, b19, v26), Nat.lt_succ_self _, ⟨hsf1.next, h⟩, ⟨rfl, ⟨rfl, rfl, rfl, rfl, rfl, rfl, trivial⟩, ⟨rfl, rfl, trivial⟩⟩⟩
      · have h := cond_f hc h
        refine AW.skip ?_
        obtain ⟨x27, hx27, h⟩ := bsome h
        obtain ⟨b28, hb28, h⟩ := bsome h
        refine Rg <| Mp rfl <| Md rfl <| FdA lOut_2 fl71_2 rfl <| Ld ty44 10 rfl <| Md rfl <| Ac (op_convu rfl rfl us3 un40 (vt rfl)) rfl <| Ac (op_build (ps := [(1, .tmp 82)]) (x := (⟨0, (BitVec.ofInt 64 x24.2.1)⟩ : Wide)) rfl rfl rfl (by kernel_rfl) zr42 ⟨_, _, lWide_1, _, by kernel_rfl, (vt rfl), rfl⟩) rfl <| Ac (op_call (xs := [.tmp 80, .const (Value.int IntKind.i64 0), .tmp 83]) (c_header_Set _ _ _ _ hx27) e161 rfl rfl ⟨vt rfl, vk rfl, vt rfl, trivial⟩) rfl <| Md rfl <| Ac (op_sub rfl rfl (vt rfl) (vk rfl)) rfl <| AOps.packF 0 2002 (fun v => (⟨b18, b19, v⟩ : trace_trip_o2)) (by decide) rfl rfl <| Ct rfl (op_callR 0 (xs := [.tmp 77, .tmp 78, .tmp 84, .tmp 86]) (hR_trace_trip_on _ _ _ _ _ _ _ hb28) e92 rfl rfl ⟨vt rfl, vt rfl, vt rfl, vt rfl, trivial⟩ rfl) ?_
        rintro _ ⟨_u, rfl⟩
        refine AOps.unboxF 0 2002 (by decide) rfl rfl fun v29 => Nl <| Rg <| Ac (op_incr (t := 41) rfl rfl (vt rfl) (vk rfl) (vt rfl) hlti20) rfl <| Md rfl <| Nl ?_
        subst hgo1
        exact ⟨(l21, i20 + 1, b28.ends, b28.Net, b28.env, v29), Nat.lt_succ_self _, ⟨hsf1.next, h⟩, ⟨rfl, ⟨rfl, rfl, rfl, rfl, rfl, rfl, trivial⟩, ⟨rfl, rfl, trivial⟩⟩⟩
def FR_trace_trip_on : Nat → (trace_trip → Int → (Vector Wide 24) → Int → Option trace_trip)
  | 0 => (fun _ _ _ _ => none)
  | n + 1 => (F_trace_trip_on_s (FR_trace_trip_on n))
theorem cR_trace_trip_on : ∀ n : Nat, (∀ (g2 gT : Nat) (t1 : trace_trip) (at4 : Int) (h5 : (Vector Wide 24)) (left6 : Int) (r : trace_trip), (FR_trace_trip_on n) t1 at4 h5 left6 = some r → Con Tryz.prog 92 [ptrL g2 (Lens.id ktrace_trip_o2), rd (kint .i64) at4, rd (karr 24 kWide) h5, rd (kint .i64) left6] (BoxF g2 gT ktrace_trip_o2 (fun v => (⟨t1.Net, t1.env, v⟩ : trace_trip_o2)) 69 kEnd t1.ends) (fun _ : Unit => top) (fun _ => BoxF g2 gT ktrace_trip_o2 (fun v => (⟨r.Net, r.env, v⟩ : trace_trip_o2)) 69 kEnd r.ends))
  | 0 => (by intros; rename_i h; cases h)
  | n + 1 => by
    have ih := cR_trace_trip_on n
    exact (c_trace_trip_on_s (FR_trace_trip_on n) ih)
def F_trace_trip_on (t1 : trace_trip) (at4 : Int) (h5 : (Vector Wide 24)) (left6 : Int) : Option trace_trip := (FR_trace_trip_on fuel0) t1 at4 h5 left6
theorem c_trace_trip_on : ∀ (g2 gT : Nat) (t1 : trace_trip) (at4 : Int) (h5 : (Vector Wide 24)) (left6 : Int) (r : trace_trip), F_trace_trip_on t1 at4 h5 left6 = some r → Con Tryz.prog 92 [ptrL g2 (Lens.id ktrace_trip_o2), rd (kint .i64) at4, rd (karr 24 kWide) h5, rd (kint .i64) left6] (BoxF g2 gT ktrace_trip_o2 (fun v => (⟨t1.Net, t1.env, v⟩ : trace_trip_o2)) 69 kEnd t1.ends) (fun _ : Unit => top) (fun _ => BoxF g2 gT ktrace_trip_o2 (fun v => (⟨r.Net, r.env, v⟩ : trace_trip_o2)) 69 kEnd r.ends) := cR_trace_trip_on fuel0
def F_trace_Run (n1 : Net) (e2 : Env) (at3 : Int) (h4 : (Vector Wide 24)) (most5 : Int) : Option (List End) :=
  (bif ((decide (at3 ≥ 0)) && (decide (at3 < (n1.Switches.length : Int)))) then (F_trace_hops most5).bind fun x10 => (F_trace_trip_on (⟨n1, e2, []⟩ : trace_trip) at3 h4 x10).bind fun b11 => some b11.ends else some [])
theorem c_trace_Run (n1 : Net) (e2 : Env) (at3 : Int) (h4 : (Vector Wide 24)) (most5 : Int) (r : (List End)) (h : F_trace_Run n1 e2 at3 h4 most5 = some r) : PCon Tryz.prog 37 [rd kNet n1, rd kEnv e2, rd (kint .i64) at3, rd (karr 24 kWide) h4, rd (kint .i64) most5] (rd (ksl kEnd) r) := by
  refine PCon.of (Con.intro0 Tryz.func37 rfl Tryz.ntmps37 rfl fun w H => ?_)
  unfold F_trace_Run at h
  refine SR <| Ct rfl (op_box 6 rfl rfl (vt rfl)) ?_
  rintro _ ⟨g6, rfl⟩
  refine Ct rfl (op_box 7 rfl rfl (vt rfl)) ?_
  rintro _ ⟨g7, rfl⟩
  refine Ct rfl (op_box 9 rfl rfl (vt rfl)) ?_
  rintro _ ⟨g8, rfl⟩
  refine Ac (op_assign (A := rd (ksl kEnd) []) rfl rfl vnil) rfl <| Nl <| AW.seq <| AW.newnil 2322 69 kEnd <| Rg <| Ld ty67 6 rfl <| Ld ty39 7 rfl <| Ac (op_build (ps := [(0, .tmp 12), (1, .tmp 13)]) (x := (⟨n1, e2, (.slice none 0 0)⟩ : trace_trip_o2)) rfl rfl rfl (by kernel_rfl) zrv156_2 ⟨_, _, ltrace_trip_o2_0, _, by kernel_rfl, (vt rfl), _, _, ltrace_trip_o2_1, _, by kernel_rfl, (vt rfl), rfl⟩) rfl <| Ct rfl (op_box 16 rfl rfl (vt rfl)) ?_
  rintro _ ⟨g9, rfl⟩
  refine Ac (op_assign (A := ptrL g9 (Lens.id ktrace_trip_o2)) rfl rfl (vt rfl)) rfl <| Nl <| AW.seq <| SR <| Md rfl <| Ac (op_geq rfl rfl (vt rfl) (vk rfl)) rfl <| Md rfl <| Gd rfl (fun hq => op_move (A := rd (kint .i64) at3) rfl rfl (vt rfl)) <| Gd rfl (fun hq => op_move (A := ptrL g9 (Lens.id ktrace_trip_o2)) rfl rfl (vt rfl)) <| Gd rfl (fun hq => op_nilCheck rfl rfl (vgt rfl hq)) <| Gd rfl (fun hq => op_field ltrace_trip_o2_0 rfl rfl flv156_0_2 (vgt rfl hq)) <| Gd rfl (fun hq => op_field lNet_0 rfl rfl fl67_0 (vgt rfl hq)) <| Gd rfl (fun hq => op_load rfl rfl ty64 (vgt rfl hq) (i := 16) rfl) <| Gd rfl (fun hq => op_len' rfl rfl sl64 (vgt rfl hq)) <| Gd rfl (fun hq => op_lss rfl rfl (vgt rfl hq) (vgt rfl hq)) <| Ac (op_all rfl rfl (vt rfl) (vt rfl)) rfl <| Nl <| Cn rfl (fun hc => ?_) (fun hc => ?_)
  · have h := cond_t hc h
    refine AW.packF 16 2322 (fun v => (⟨n1, e2, v⟩ : trace_trip_o2)) (by decide) rfl rfl ?_
    obtain ⟨x10, hx10, h⟩ := bsome h
    obtain ⟨b11, hb11, h⟩ := bsome h
    refine AW.regionAny [⟨[11], [28], [], []⟩, ⟨[2], [29], [], []⟩, ⟨[8], [30], [9], []⟩, ⟨[4], [31], [], []⟩, ⟨[31], [32], [], []⟩, ⟨[28, 29, 30, 32], [33], [16], [16]⟩] mixed (by kernel_rfl) <| SMp rfl <| SMd rfl <| SLd ty44 9 rfl <| SMd rfl <| SCl [31] (c_trace_hops _ _ hx10) e93 rfl <| Sc (locs (us := [(33, top)]) (ur := [(16, BoxF g9 156 ktrace_trip_o2 (fun v => (⟨b11.Net, b11.env, v⟩ : trace_trip_o2)) 69 kEnd b11.ends)]) [28, 29, 30, 32] [16] rfl fun S hs hr => op_callU 16 (xs := [.tmp 28, .tmp 29, .tmp 30, .tmp 32]) (c_trace_trip_on _ _ _ _ _ _ _ hb11) e92 rfl rfl ⟨vt ((hs 28 rfl).trans rfl), vt ((hs 29 rfl).trans rfl), vt ((hs 30 rfl).trans rfl), vt ((hs 32 rfl).trans rfl), trivial⟩ ((hr 16 rfl).trans rfl)) rfl <| AW.unboxF 16 2322 (by decide) rfl rfl fun v12 => SR <| Mp rfl <| Nc rfl <| FdA ltrace_trip_o2_2 flv156_2_2 rfl <| Ac (op_loadv v12 rfl rfl tyr62 (vt rfl) (i := 16) rfl rfl) rfl <| Aw rfl <| Nl <| AW.freezes [10, 37] 2322 rfl ⟨rfl, rfl, trivial⟩ rfl <| AW.ret ?_
    obtain rfl := si h
    exact ret1 Tryz.results37 rfl (out_tmp rfl)
  · have h := cond_f hc h
    refine AW.skip <| SR <| Mp rfl <| Nc rfl <| FdA ltrace_trip_o2_2 flv156_2_2 rfl <| Ac (op_loadv (.slice none 0 0) rfl rfl tyr62 (vt rfl) (i := 16) rfl rfl) rfl <| Aw rfl <| Nl <| AW.freezes [10, 37] 2322 rfl ⟨rfl, rfl, trivial⟩ rfl <| AW.ret ?_
    obtain rfl := si h
    exact ret1 Tryz.results37 rfl (out_tmp rfl)
def F_slices_Equal_End_l1 (s11 : (List End)) (s22 : (List End)) : Nat → Nat → Option Bool
  | 0, i3 => some true
  | m4 + 1, i3 => (lget s11 (i3 : Int)).bind fun e5 => (lget s22 (i3 : Int)).bind fun e6 => (bif (decide (e5 ≠ e6)) then some false else (F_slices_Equal_End_l1 s11 s22 m4) (i3 + 1))
def F_slices_Equal_End (s11 : (List End)) (s22 : (List End)) : Option Bool :=
  (bif (decide ((s11.length : Int) ≠ (s22.length : Int))) then some false else F_slices_Equal_End_l1 s11 s22 ((s11.length : Int) : Int).toNat 0)
theorem c_slices_Equal_End (s11 : (List End)) (s22 : (List End)) (r : Bool) (h : F_slices_Equal_End s11 s22 = some r) : PCon Tryz.prog 158 [rd (ksl kEnd) s11, rd (ksl kEnd) s22] (rd kbool r) := by
  refine PCon.of (Con.intro0 Tryz.func158 rfl Tryz.ntmps158 rfl fun w H => ?_)
  unfold F_slices_Equal_End at h
  refine SR <| Ab rfl <| Nl <| AW.seq <| SR <| Md rfl <| Ac (op_len' rfl rfl sl62 (vt rfl)) rfl <| Md rfl <| Ac (op_len' rfl rfl sl62 (vt rfl)) rfl <| Ac (op_neq rfl rfl (vt rfl) (vt rfl)) rfl <| Nl <| Cn rfl (fun hc => ?_) (fun hc => ?_)
  · have h := cond_t hc h
    refine SR <| Ab rfl <| Nl <| AW.ret ?_
    obtain rfl := si h
    exact ret1 Tryz.results158 rfl (out_tmp rfl)
  · have h := cond_f hc h
    refine AW.skip <| AW.seq <| SR <| Md rfl <| Ac (op_len' rfl rfl sl62 (vt rfl)) rfl <| Mk rfl <| Nl <| AW.block <| AW.loopG (d := []) (ν := Nat × Nat) (fun n => Cnt (s11.length : Int) n.2 n.1 ∧ F_slices_Equal_End_l1 s11 s22 n.1 n.2 = some r) (fun n => n.1) (fun n => [(0, rd (ksl kEnd) s11), (1, rd (ksl kEnd) s22), (12, rd (kint .i64) (s11.length : Int)), (13, rd (kint .i64) (n.2 : Int))]) (fun n => []) (((s11.length : Int) : Int).toNat, 0) ⟨Cnt.start _, h⟩ ⟨rfl, ⟨rfl, rfl, rfl, rfl, trivial⟩, trivial⟩ ?_
    rintro ⟨m4, i3⟩ ⟨hsf1, h⟩
    change Cnt (s11.length : Int) i3 m4 at hsf1
    change F_slices_Equal_End_l1 s11 s22 m4 i3 = some r at h
    change AW _ _ _ ⟨slots [(0, rd (ksl kEnd) s11), (1, rd (ksl kEnd) s22), (12, rd (kint .i64) (s11.length : Int)), (13, rd (kint .i64) (i3 : Int))], ress [], _⟩
    cases m4 with
    | zero =>
      unfold F_slices_Equal_End_l1 at h
      refine SR <| Ac (op_lss rfl rfl (vt rfl) (vt rfl)) rfl <| Nl <| AW.seq <| Cn rfl (fun hc => absurd (of_decide_eq_true hc) hsf1.zero) (fun hc => ?_)
      refine AW.exit <| SR <| Ab rfl <| Nl <| AW.ret ?_
      obtain rfl := si h
      exact ret1 Tryz.results158 rfl (out_tmp rfl)
    | succ m4 =>
      unfold F_slices_Equal_End_l1 at h
      generalize hgo1 : F_slices_Equal_End_l1 s11 s22 m4 = go1 at h
      refine SR <| Ac (op_lss rfl rfl (vt rfl) (vt rfl)) rfl <| Nl <| AW.seq <| Cn rfl (fun hc => ?_) (fun hc => absurd hsf1.succ (of_decide_eq_false hc))
      have hlti3 := of_decide_eq_true hc
      refine AW.skip <| AW.seq <| AW.block <| SR <| Md rfl <| As rfl <| Nl <| AW.seq ?_
      obtain ⟨e5, he5, h⟩ := bsome h
      obtain ⟨e6, he6, h⟩ := bsome h
      refine AW.regionAny [⟨[0], [16], [], []⟩, ⟨[5], [17], [], []⟩, ⟨[16, 17], [18], [], []⟩, ⟨[18], [19], [], []⟩, ⟨[1], [20], [], []⟩, ⟨[5], [21], [], []⟩, ⟨[20, 21], [22], [], []⟩, ⟨[22], [23], [], []⟩, ⟨[19, 23], [24], [], []⟩] mixed (by kernel_rfl) <| SMd rfl <| SMd rfl <| Sc (lo [16, 17] [] rfl fun S hs hr => op_indexs' rfl rfl sl62 (vh hs 16 rfl rfl) (vh hs 17 rfl rfl) he5) rfl <| SLp ty69 rfl <| SMd rfl <| SMd rfl <| Sc (lo [20, 21] [] rfl fun S hs hr => op_indexs' rfl rfl sl62 (vh hs 20 rfl rfl) (vh hs 21 rfl rfl) he6) rfl <| SLp ty69 rfl <| Sc (lo [19, 23] [] rfl fun S hs hr => op_neqk rfl rfl eqk69 (by decide) rfl eg69 (vh hs 19 rfl rfl) (vh hs 23 rfl rfl)) rfl <| Cn rfl (fun hc => ?_) (fun hc => ?_)
      · have h := cond_t hc h
        refine SR <| Ab rfl <| Nl <| AW.ret ?_
        obtain rfl := si h
        exact ret1 Tryz.results158 rfl (out_tmp rfl)
      · have h := cond_f hc h
        refine AW.skip <| Rg <| Ac (op_incr (t := 12) rfl rfl (vt rfl) (vk rfl) (vt rfl) hlti3) rfl <| Md rfl <| Nl ?_
        subst hgo1
        exact ⟨(m4, i3 + 1), Nat.lt_succ_self _, ⟨hsf1.next, h⟩, ⟨rfl, ⟨rfl, rfl, rfl, rfl, trivial⟩, trivial⟩⟩
def F_trace_Same (a1 : (List End)) (b2 : (List End)) : Option Bool :=
  (F_slices_Equal_End a1 b2).bind fun x3 => some x3
theorem c_trace_Same (a1 : (List End)) (b2 : (List End)) (r : Bool) (h : F_trace_Same a1 b2 = some r) : PCon Tryz.prog 90 [rd (ksl kEnd) a1, rd (ksl kEnd) b2] (rd kbool r) := by
  refine PCon.of (Con.intro0 Tryz.func90 rfl Tryz.ntmps90 rfl fun w H => ?_)
  unfold F_trace_Same at h
  refine SR <| Ab rfl <| Nl <| AW.seq ?_
  obtain ⟨x3, hx3, h⟩ := bsome h
  refine Rg <| Md rfl <| Md rfl <| Cl [5, 6] (c_slices_Equal_End _ _ _ hx3) e158 rfl <| As rfl <| Nl <| AW.ret ?_
  obtain rfl := si h
  exact ret1 Tryz.results90 rfl (out_tmp rfl)
def F_trace_Left_1 (x1 : End) (cp2 : Int) (cp3 : Int) : Option Bool :=
  some ((x1.Left && (decide (x1.At = cp2))) && (decide (x1.Port = cp3)))
theorem c_trace_Left_1 (x1 : End) (cp2 : Int) (cp3 : Int) (r : Bool) (h : F_trace_Left_1 x1 cp2 cp3 = some r) : PCon Tryz.prog 160 [rd kEnd x1, rp (kint .i64) cp2, rp (kint .i64) cp3] (rd kbool r) := by
  refine PCon.of (Con.intro0 Tryz.func160 rfl Tryz.ntmps160 rfl fun w H => ?_)
  unfold F_trace_Left_1 at h
  refine SR <| Ct rfl (op_box 4 rfl rfl (vt rfl)) ?_
  rintro _ ⟨g4, rfl⟩
  refine Ab rfl <| Nl <| SR <| FdA lEnd_3 fl69_3 rfl <| Ld ty4 4 rfl <| Md rfl <| Gd rfl (fun hq => op_field lEnd_0 rfl rfl fl69_0 (vt rfl)) <| Gd rfl (fun hq => op_load rfl rfl ty3 (vgt rfl hq) (i := 4) rfl) <| Gd rfl (fun hq => op_loadp rfl rfl ty3 (vt rfl)) <| Gd rfl (fun hq => op_eql rfl rfl (vgt rfl hq) (vgt rfl hq)) <| Ac (op_all rfl rfl (vt rfl) (vt rfl)) rfl <| Md rfl <| Gd rfl (fun hq => op_field lEnd_1 rfl rfl fl69_1 (vt rfl)) <| Gd rfl (fun hq => op_load rfl rfl ty3 (vgt rfl hq) (i := 4) rfl) <| Gd rfl (fun hq => op_loadp rfl rfl ty3 (vt rfl)) <| Gd rfl (fun hq => op_eql rfl rfl (vgt rfl hq) (vgt rfl hq)) <| Ac (op_all rfl rfl (vt rfl) (vt rfl)) rfl <| As rfl <| Nl <| AW.ret ?_
  obtain rfl := si h
  exact ret1 Tryz.results160 rfl (out_tmp rfl)
def F_slices_IndexFunc_End_l1 (s1 : (List End)) (f2 : (End → Option Bool)) : Nat → Nat → Option Int
  | 0, i3 => some (-1)
  | m4 + 1, i3 => (lget s1 (i3 : Int)).bind fun e5 => (f2 e5).bind fun x6 => (bif x6 then some (i3 : Int) else (F_slices_IndexFunc_End_l1 s1 f2 m4) (i3 + 1))
def F_slices_IndexFunc_End (s1 : (List End)) (f2 : (End → Option Bool)) : Option Int :=
  F_slices_IndexFunc_End_l1 s1 f2 ((s1.length : Int) : Int).toNat 0
theorem c_slices_IndexFunc_End (s1 : (List End)) (f2 : (End → Option Bool)) (r : Int) (h : F_slices_IndexFunc_End s1 f2 = some r) : PCon Tryz.prog 230 [rd (ksl kEnd) s1, fn1 Tryz.prog kEnd kbool f2] (rd (kint .i64) r) := by
  refine PCon.of (Con.intro0 Tryz.func230 rfl Tryz.ntmps230 rfl fun w H => ?_)
  unfold F_slices_IndexFunc_End at h
  refine SR <| Ak rfl <| Nl <| AW.seq <| SR <| Md rfl <| Ac (op_len' rfl rfl sl62 (vt rfl)) rfl <| Mk rfl <| Nl <| AW.block <| AW.loopG (d := []) (ν := Nat × Nat) (fun n => Cnt (s1.length : Int) n.2 n.1 ∧ F_slices_IndexFunc_End_l1 s1 f2 n.1 n.2 = some r) (fun n => n.1) (fun n => [(0, rd (ksl kEnd) s1), (1, fn1 Tryz.prog kEnd kbool f2), (7, rd (kint .i64) (s1.length : Int)), (8, rd (kint .i64) (n.2 : Int))]) (fun n => []) (((s1.length : Int) : Int).toNat, 0) ⟨Cnt.start _, h⟩ ⟨rfl, ⟨rfl, rfl, rfl, rfl, trivial⟩, trivial⟩ ?_
  rintro ⟨m4, i3⟩ ⟨hsf1, h⟩
  change Cnt (s1.length : Int) i3 m4 at hsf1
  change F_slices_IndexFunc_End_l1 s1 f2 m4 i3 = some r at h
  change AW _ _ _ ⟨slots [(0, rd (ksl kEnd) s1), (1, fn1 Tryz.prog kEnd kbool f2), (7, rd (kint .i64) (s1.length : Int)), (8, rd (kint .i64) (i3 : Int))], ress [], _⟩
  cases m4 with
  | zero =>
    unfold F_slices_IndexFunc_End_l1 at h
    refine SR <| Ac (op_lss rfl rfl (vt rfl) (vt rfl)) rfl <| Nl <| AW.seq <| Cn rfl (fun hc => absurd (of_decide_eq_true hc) hsf1.zero) (fun hc => ?_)
    refine AW.exit <| SR <| Ak rfl <| Nl <| AW.ret ?_
    obtain rfl := si h
    exact ret1 Tryz.results230 rfl (out_tmp rfl)
  | succ m4 =>
    unfold F_slices_IndexFunc_End_l1 at h
    generalize hgo1 : F_slices_IndexFunc_End_l1 s1 f2 m4 = go1 at h
    refine SR <| Ac (op_lss rfl rfl (vt rfl) (vt rfl)) rfl <| Nl <| AW.seq <| Cn rfl (fun hc => ?_) (fun hc => absurd hsf1.succ (of_decide_eq_false hc))
    have hlti3 := of_decide_eq_true hc
    refine AW.skip <| AW.seq <| AW.block <| SR <| Md rfl <| As rfl <| Nl <| AW.seq ?_
    obtain ⟨e5, he5, h⟩ := bsome h
    obtain ⟨x6, hx6, h⟩ := bsome h
    refine Rg <| Ac (op_move (A := fn1 Tryz.prog kEnd kbool f2) rfl rfl (vt rfl)) rfl <| Md rfl <| Md rfl <| Ac (op_indexs' rfl rfl sl62 (vt rfl) (vt rfl) he5) rfl <| Lp1 ty69 rfl <| Ac (op_call1 hx6 rfl rfl (vt rfl) (vt rfl)) rfl <| Nl <| Cn rfl (fun hc => ?_) (fun hc => ?_)
    · have h := cond_t hc h
      refine SR <| Md rfl <| As rfl <| Nl <| AW.ret ?_
      obtain rfl := si h
      exact ret1 Tryz.results230 rfl (out_tmp rfl)
    · have h := cond_f hc h
      refine AW.skip <| Rg <| Ac (op_incr (t := 7) rfl rfl (vt rfl) (vk rfl) (vt rfl) hlti3) rfl <| Md rfl <| Nl ?_
      subst hgo1
      exact ⟨(m4, i3 + 1), Nat.lt_succ_self _, ⟨hsf1.next, h⟩, ⟨rfl, ⟨rfl, rfl, rfl, rfl, trivial⟩, trivial⟩⟩
def F_slices_ContainsFunc_End (s1 : (List End)) (f2 : (End → Option Bool)) : Option Bool :=
  (F_slices_IndexFunc_End s1 f2).bind fun x3 => some (decide (x3 ≥ 0))
theorem c_slices_ContainsFunc_End (s1 : (List End)) (f2 : (End → Option Bool)) (r : Bool) (h : F_slices_ContainsFunc_End s1 f2 = some r) : PCon Tryz.prog 159 [rd (ksl kEnd) s1, fn1 Tryz.prog kEnd kbool f2] (rd kbool r) := by
  refine PCon.of (Con.intro0 Tryz.func159 rfl Tryz.ntmps159 rfl fun w H => ?_)
  unfold F_slices_ContainsFunc_End at h
  refine SR <| Ab rfl <| Nl <| AW.seq ?_
  obtain ⟨x3, hx3, h⟩ := bsome h
  refine Rg <| Md rfl <| Ac (op_move (A := fn1 Tryz.prog kEnd kbool f2) rfl rfl (vt rfl)) rfl <| Cl [5, 6] (c_slices_IndexFunc_End _ _ _ hx3) e230 rfl <| Ac (op_geq rfl rfl (vt rfl) (vk rfl)) rfl <| As rfl <| Nl <| AW.ret ?_
  obtain rfl := si h
  exact ret1 Tryz.results159 rfl (out_tmp rfl)
end Go.Proofs.YtknpgojdkobgjaaGreat.W
set_option linter.unusedVariables false
set_option maxRecDepth 4000
set_option linter.unusedSimpArgs false
namespace Go.Proofs.YtknpgojdkobgjaaGreat.W
open Go Go.Wb
theorem e160 : Ent Tryz.prog 160 := Ent.mk Tryz.func160 rfl rfl
theorem e159 : Ent Tryz.prog 159 := Ent.mk Tryz.func159 rfl rfl
theorem e89 : Ent Tryz.prog 89 := Ent.mk Tryz.func89 rfl rfl
theorem e37 : Ent Tryz.prog 37 := Ent.mk Tryz.func37 rfl rfl
theorem e90 : Ent Tryz.prog 90 := Ent.mk Tryz.func90 rfl rfl
theorem e91 : Ent Tryz.prog 91 := Ent.mk Tryz.func91 rfl rfl
theorem e94 : Ent Tryz.prog 94 := Ent.mk Tryz.func94 rfl rfl
theorem e21 : Ent Tryz.prog 21 := Ent.mk Tryz.func21 rfl rfl
theorem e36 : Ent Tryz.prog 36 := Ent.mk Tryz.func36 rfl rfl
theorem e38 : Ent Tryz.prog 38 := Ent.mk Tryz.func38 rfl rfl
def F_trace_Left (l1 : (List End)) (at2 : Int) (port3 : Int) : Option Bool :=
  (F_slices_ContainsFunc_End l1 (fun x => F_trace_Left_1 x at2 port3)).bind fun x6 => some x6
theorem c_trace_Left (l1 : (List End)) (at2 : Int) (port3 : Int) (r : Bool) (h : F_trace_Left l1 at2 port3 = some r) : PCon Tryz.prog 91 [rd (ksl kEnd) l1, rd (kint .i64) at2, rd (kint .i64) port3] (rd kbool r) := by
  refine PCon.of (Con.intro0 Tryz.func91 rfl Tryz.ntmps91 rfl fun w H => ?_)
  unfold F_trace_Left at h
  refine SR <| Ct rfl (op_box 5 rfl rfl (vt rfl)) ?_
  rintro _ ⟨g4, rfl⟩
  refine Ct rfl (op_box 6 rfl rfl (vt rfl)) ?_
  rintro _ ⟨g5, rfl⟩
  refine Ab rfl <| Nl <| AW.seq <| AW.freezeB 4 5 rfl rfl rfl <| AW.freezeB 5 6 rfl rfl rfl ?_
  obtain ⟨x6, hx6, h⟩ := bsome h
  refine Rg <| Md rfl <| Ac (op_fn1 (cs := [.tmp 4, .tmp 5]) (CAs := [rp (kint .i64) at2, rp (kint .i64) port3]) (fun x => F_trace_Left_1 x at2 port3) rfl rfl e160 ⟨vt rfl, vt rfl, trivial⟩ (fun x y h => c_trace_Left_1 _ _ _ y h)) rfl <| Cl [7, 8] (c_slices_ContainsFunc_End _ _ _ hx6) e159 rfl <| As rfl <| Nl <| AW.ret ?_
  obtain rfl := si h
  exact ret1 Tryz.results91 rfl (out_tmp rfl)
def F_l48_awake : Option Bool :=
  (F_l48_flood 3).bind fun x1 => (F_l48_flood 5).bind fun x2 => (F_trace_Run (⟨[x1, x2], [(⟨0, 3, 1, 4⟩ : Link)]⟩ : Net) (⟨0, []⟩ : Env) 0 (Vector.replicate 24 zWide) 4).bind fun x4 => (F_trace_Run (⟨[x1, x2], [(⟨0, 3, 1, 4⟩ : Link)]⟩ : Net) (⟨0, []⟩ : Env) 0 (Vector.replicate 24 zWide) 1).bind fun x5 => (opt (decide ((x4.length : Int) = 1)) (lget x4 0)).bind fun e6 => (opt ((decide ((x4.length : Int) = 1)) && e6.Left) (lget x4 0)).bind fun e7 => (opt (((decide ((x4.length : Int) = 1)) && e6.Left) && (decide (e7.At = 1))) (lget x4 0)).bind fun e8 => (opt ((((decide ((x4.length : Int) = 1)) && e6.Left) && (decide (e7.At = 1))) && (decide (e8.Port = 5))) (lget x4 0)).bind fun e9 => (opt ((((((decide ((x4.length : Int) = 1)) && e6.Left) && (decide (e7.At = 1))) && (decide (e8.Port = 5))) && (decide (((Vector.get e9.Header (⟨0, by decide⟩ : _root_.Fin 24)).Lo) = (4 : BitVec 64)))) && (decide ((x5.length : Int) = 1))) (lget x5 0)).bind fun e10 => (opt (((((((decide ((x4.length : Int) = 1)) && e6.Left) && (decide (e7.At = 1))) && (decide (e8.Port = 5))) && (decide (((Vector.get e9.Header (⟨0, by decide⟩ : _root_.Fin 24)).Lo) = (4 : BitVec 64)))) && (decide ((x5.length : Int) = 1))) && (!e10.Left)) (F_trace_Same x4 x4)).bind fun x11 => (opt ((((((((decide ((x4.length : Int) = 1)) && e6.Left) && (decide (e7.At = 1))) && (decide (e8.Port = 5))) && (decide (((Vector.get e9.Header (⟨0, by decide⟩ : _root_.Fin 24)).Lo) = (4 : BitVec 64)))) && (decide ((x5.length : Int) = 1))) && (!e10.Left)) && x11) (F_trace_Same x4 x5)).bind fun x12 => (opt (((((((((decide ((x4.length : Int) = 1)) && e6.Left) && (decide (e7.At = 1))) && (decide (e8.Port = 5))) && (decide (((Vector.get e9.Header (⟨0, by decide⟩ : _root_.Fin 24)).Lo) = (4 : BitVec 64)))) && (decide ((x5.length : Int) = 1))) && (!e10.Left)) && x11) && (!x12)) (F_trace_Left x4 1 5)).bind fun x13 => some ((((((((((decide ((x4.length : Int) = 1)) && e6.Left) && (decide (e7.At = 1))) && (decide (e8.Port = 5))) && (decide (((Vector.get e9.Header (⟨0, by decide⟩ : _root_.Fin 24)).Lo) = (4 : BitVec 64)))) && (decide ((x5.length : Int) = 1))) && (!e10.Left)) && x11) && (!x12)) && x13)
theorem c_l48_awake (r : Bool) (h : F_l48_awake = some r) : PCon Tryz.prog 36 [] (rd kbool r) := by
  refine PCon.of (Con.intro0 Tryz.func36 rfl Tryz.ntmps36 rfl fun w H => ?_)
  unfold F_l48_awake at h
  refine SR <| Ab rfl <| Nl <| AW.seq ?_
  obtain ⟨x1, hx1, h⟩ := bsome h
  obtain ⟨x2, hx2, h⟩ := bsome h
  refine Rg <| Ac (op_call (xs := [.const (Value.int IntKind.i64 3)]) (c_l48_flood _ _ hx1) e89 rfl rfl ⟨vk rfl, trivial⟩) rfl <| Ac (op_call (xs := [.const (Value.int IntKind.i64 5)]) (c_l48_flood _ _ hx2) e89 rfl rfl ⟨vk rfl, trivial⟩) rfl <| Ac (op_buildSliceR (ps := [(0, .tmp 4), (1, .tmp 5)]) (l := [x1, x2]) rfl rfl sl64 zr26 rfl rfl ⟨_, _, Lens.idx 2 kSwitch 0 (by decide), _, rfl, (vt rfl), _, _, Lens.idx 2 kSwitch 1 (by decide), _, rfl, (vt rfl), rfl⟩ rfl) rfl <| Ac (op_build (ps := [(0, .const (Value.int IntKind.i64 0)), (1, .const (Value.int IntKind.i64 3)), (2, .const (Value.int IntKind.i64 1)), (3, .const (Value.int IntKind.i64 4))]) (x := (⟨0, 3, 1, 4⟩ : Link)) rfl rfl rfl (by kernel_rfl) zr152 ⟨_, _, lLink_0, _, by kernel_rfl, (vk rfl), _, _, lLink_1, _, by kernel_rfl, (vk rfl), _, _, lLink_2, _, by kernel_rfl, (vk rfl), _, _, lLink_3, _, by kernel_rfl, (vk rfl), rfl⟩) rfl <| Ac (op_buildSliceR (ps := [(0, .tmp 7)]) (l := [(⟨0, 3, 1, 4⟩ : Link)]) rfl rfl sl65 zr152 rfl rfl ⟨_, _, Lens.idx 1 kLink 0 (by decide), _, rfl, (vt rfl), rfl⟩ rfl) rfl <| Ac (op_build (ps := [(0, .tmp 6), (1, .tmp 8)]) (x := (⟨[x1, x2], [(⟨0, 3, 1, 4⟩ : Link)]⟩ : Net)) rfl rfl rfl (by kernel_rfl) zr67 ⟨_, _, lNet_0, _, by kernel_rfl, (vt rfl), _, _, lNet_1, _, by kernel_rfl, (vt rfl), rfl⟩) rfl <| Ct rfl (op_alloc 2 rfl rfl zr67) ?_
  rintro _ ⟨g3, rfl⟩
  refine Sto ty67 2 rfl <| Nl <| AW.seq ?_
  obtain ⟨x4, hx4, h⟩ := bsome h
  refine Rg <| Ld ty67 2 rfl <| Ac (op_build (ps := []) (x := (⟨0, []⟩ : Env)) rfl rfl rfl (by kernel_rfl) zr39 rfl) rfl <| Ac (op_build (ps := []) (x := (Vector.replicate 24 zWide)) rfl rfl rfl (by kernel_rfl) zr44 rfl) rfl <| Ac (op_call (xs := [.tmp 10, .tmp 11, .const (Value.int IntKind.i64 0), .tmp 12, .const (Value.int IntKind.i64 4)]) (c_trace_Run _ _ _ _ _ _ hx4) e37 rfl rfl ⟨vt rfl, vt rfl, vk rfl, vt rfl, vk rfl, trivial⟩) rfl <| As rfl <| Nl <| AW.seq ?_
  obtain ⟨x5, hx5, h⟩ := bsome h
  refine Rg <| Ld ty67 2 rfl <| Ac (op_build (ps := []) (x := (⟨0, []⟩ : Env)) rfl rfl rfl (by kernel_rfl) zr39 rfl) rfl <| Ac (op_build (ps := []) (x := (Vector.replicate 24 zWide)) rfl rfl rfl (by kernel_rfl) zr44 rfl) rfl <| Ac (op_call (xs := [.tmp 14, .tmp 15, .const (Value.int IntKind.i64 0), .tmp 16, .const (Value.int IntKind.i64 1)]) (c_trace_Run _ _ _ _ _ _ hx5) e37 rfl rfl ⟨vt rfl, vt rfl, vk rfl, vt rfl, vk rfl, trivial⟩) rfl <| As rfl <| Nl <| AW.seq ?_
  obtain ⟨e6, he6, h⟩ := bsome h
  obtain ⟨e7, he7, h⟩ := bsome h
  obtain ⟨e8, he8, h⟩ := bsome h
  obtain ⟨e9, he9, h⟩ := bsome h
  obtain ⟨e10, he10, h⟩ := bsome h
  obtain ⟨x11, hx11, h⟩ := bsome h
  obtain ⟨x12, hx12, h⟩ := bsome h
  obtain ⟨x13, hx13, h⟩ := bsome h
  refine Rg <| Md rfl <| Ac (op_len' rfl rfl sl62 (vt rfl)) rfl <| Ac (op_eql rfl rfl (vt rfl) (vk rfl)) rfl <| Md rfl <| Gd rfl (fun hq => op_move (A := rd (ksl kEnd) x4) rfl rfl (vt rfl)) <| Gd rfl (fun hq => op_indexs' rfl rfl sl62 (vgt rfl hq) (vk rfl) (opt_t he6 hq)) <| Gd rfl (fun hq => op_fieldp lEnd_3 rfl rfl fl69_3 (vgt rfl hq)) <| Gd rfl (fun hq => op_loadp rfl rfl ty4 (vgt rfl hq)) <| Ac (op_all rfl rfl (vt rfl) (vt rfl)) rfl <| Md rfl <| Gd rfl (fun hq => op_move (A := rd (ksl kEnd) x4) rfl rfl (vt rfl)) <| Gd rfl (fun hq => op_indexs' rfl rfl sl62 (vgt rfl hq) (vk rfl) (opt_t he7 hq)) <| Gd rfl (fun hq => op_fieldp lEnd_0 rfl rfl fl69_0 (vgt rfl hq)) <| Gd rfl (fun hq => op_loadp rfl rfl ty3 (vgt rfl hq)) <| Gd rfl (fun hq => op_eql rfl rfl (vgt rfl hq) (vk rfl)) <| Ac (op_all rfl rfl (vt rfl) (vt rfl)) rfl <| Md rfl <| Gd rfl (fun hq => op_move (A := rd (ksl kEnd) x4) rfl rfl (vt rfl)) <| Gd rfl (fun hq => op_indexs' rfl rfl sl62 (vgt rfl hq) (vk rfl) (opt_t he8 hq)) <| Gd rfl (fun hq => op_fieldp lEnd_1 rfl rfl fl69_1 (vgt rfl hq)) <| Gd rfl (fun hq => op_loadp rfl rfl ty3 (vgt rfl hq)) <| Gd rfl (fun hq => op_eql rfl rfl (vgt rfl hq) (vk rfl)) <| Ac (op_all rfl rfl (vt rfl) (vt rfl)) rfl <| Md rfl <| Gd rfl (fun hq => op_move (A := rd (ksl kEnd) x4) rfl rfl (vt rfl)) <| Gd rfl (fun hq => op_indexs' rfl rfl sl62 (vgt rfl hq) (vk rfl) (opt_t he9 hq)) <| Gd rfl (fun hq => op_fieldp lEnd_4 rfl rfl fl69_4 (vgt rfl hq)) <| Gd rfl (fun hq => op_indexp' rfl rfl ar44 (vgt rfl hq) (vk rfl) rfl) <| Gd rfl (fun hq => op_fieldp lWide_1 rfl rfl fl42_1 (vgt rfl hq)) <| Gd rfl (fun hq => op_loadp rfl rfl ty40 (vgt rfl hq)) <| Gd rfl (fun hq => op_eqlu rfl rfl (vgt rfl hq) (vku (4 : BitVec 64) rfl)) <| Ac (op_all rfl rfl (vt rfl) (vt rfl)) rfl <| Md rfl <| Gd rfl (fun hq => op_move (A := rd (ksl kEnd) x5) rfl rfl (vt rfl)) <| Gd rfl (fun hq => op_len' rfl rfl sl62 (vgt rfl hq)) <| Gd rfl (fun hq => op_eql rfl rfl (vgt rfl hq) (vk rfl)) <| Ac (op_all rfl rfl (vt rfl) (vt rfl)) rfl <| Md rfl <| Gd rfl (fun hq => op_move (A := rd (ksl kEnd) x5) rfl rfl (vt rfl)) <| Gd rfl (fun hq => op_indexs' rfl rfl sl62 (vgt rfl hq) (vk rfl) (opt_t he10 hq)) <| Gd rfl (fun hq => op_fieldp lEnd_3 rfl rfl fl69_3 (vgt rfl hq)) <| Gd rfl (fun hq => op_loadp rfl rfl ty4 (vgt rfl hq)) <| Gd rfl (fun hq => op_not rfl rfl (vgt rfl hq)) <| Ac (op_all rfl rfl (vt rfl) (vt rfl)) rfl <| Md rfl <| Gd rfl (fun hq => op_move (A := rd (ksl kEnd) x4) rfl rfl (vt rfl)) <| Gd rfl (fun hq => op_move (A := rd (ksl kEnd) x4) rfl rfl (vt rfl)) <| Gd rfl (fun hq => op_call (xs := [.tmp 63, .tmp 64]) (c_trace_Same _ _ _ (opt_t hx11 hq)) e90 rfl rfl ⟨vgt rfl hq, vgt rfl hq, trivial⟩) <| Ac (op_all rfl rfl (vt rfl) (vt rfl)) rfl <| Md rfl <| Gd rfl (fun hq => op_move (A := rd (ksl kEnd) x4) rfl rfl (vt rfl)) <| Gd rfl (fun hq => op_move (A := rd (ksl kEnd) x5) rfl rfl (vt rfl)) <| Gd rfl (fun hq => op_call (xs := [.tmp 68, .tmp 69]) (c_trace_Same _ _ _ (opt_t hx12 hq)) e90 rfl rfl ⟨vgt rfl hq, vgt rfl hq, trivial⟩) ?_
  refine Gd rfl (fun hq => op_not rfl rfl (vgt rfl hq)) <| Ac (op_all rfl rfl (vt rfl) (vt rfl)) rfl <| Md rfl <| Gd rfl (fun hq => op_move (A := rd (ksl kEnd) x4) rfl rfl (vt rfl)) <| Gd rfl (fun hq => op_call (xs := [.tmp 74, .const (Value.int IntKind.i64 1), .const (Value.int IntKind.i64 5)]) (c_trace_Left _ _ _ _ (opt_t hx13 hq)) e91 rfl rfl ⟨vgt rfl hq, vk rfl, vk rfl, trivial⟩) <| Ac (op_all rfl rfl (vt rfl) (vt rfl)) rfl <| As rfl <| Nl <| AW.ret ?_
  obtain rfl := si h
  exact ret1 Tryz.results36 rfl (out_tmp rfl)
def F_slices_Equal_Out_l1 (s11 : (List Out)) (s22 : (List Out)) : Nat → Nat → Option Bool
  | 0, i3 => some true
  | m4 + 1, i3 => (lget s11 (i3 : Int)).bind fun e5 => (lget s22 (i3 : Int)).bind fun e6 => (bif (decide (e5 ≠ e6)) then some false else (F_slices_Equal_Out_l1 s11 s22 m4) (i3 + 1))
def F_slices_Equal_Out (s11 : (List Out)) (s22 : (List Out)) : Option Bool :=
  (bif (decide ((s11.length : Int) ≠ (s22.length : Int))) then some false else F_slices_Equal_Out_l1 s11 s22 ((s11.length : Int) : Int).toNat 0)
theorem c_slices_Equal_Out (s11 : (List Out)) (s22 : (List Out)) (r : Bool) (h : F_slices_Equal_Out s11 s22 = some r) : PCon Tryz.prog 94 [rd (ksl kOut) s11, rd (ksl kOut) s22] (rd kbool r) := by
  refine PCon.of (Con.intro0 Tryz.func94 rfl Tryz.ntmps94 rfl fun w H => ?_)
  unfold F_slices_Equal_Out at h
  refine SR <| Ab rfl <| Nl <| AW.seq <| SR <| Md rfl <| Ac (op_len' rfl rfl sl46 (vt rfl)) rfl <| Md rfl <| Ac (op_len' rfl rfl sl46 (vt rfl)) rfl <| Ac (op_neq rfl rfl (vt rfl) (vt rfl)) rfl <| Nl <| Cn rfl (fun hc => ?_) (fun hc => ?_)
  · have h := cond_t hc h
    refine SR <| Ab rfl <| Nl <| AW.ret ?_
    obtain rfl := si h
    exact ret1 Tryz.results94 rfl (out_tmp rfl)
  · have h := cond_f hc h
    refine AW.skip <| AW.seq <| SR <| Md rfl <| Ac (op_len' rfl rfl sl46 (vt rfl)) rfl <| Mk rfl <| Nl <| AW.block <| AW.loopG (d := []) (ν := Nat × Nat) (fun n => Cnt (s11.length : Int) n.2 n.1 ∧ F_slices_Equal_Out_l1 s11 s22 n.1 n.2 = some r) (fun n => n.1) (fun n => [(0, rd (ksl kOut) s11), (1, rd (ksl kOut) s22), (12, rd (kint .i64) (s11.length : Int)), (13, rd (kint .i64) (n.2 : Int))]) (fun n => []) (((s11.length : Int) : Int).toNat, 0) ⟨Cnt.start _, h⟩ ⟨rfl, ⟨rfl, rfl, rfl, rfl, trivial⟩, trivial⟩ ?_
    rintro ⟨m4, i3⟩ ⟨hsf1, h⟩
    change Cnt (s11.length : Int) i3 m4 at hsf1
    change F_slices_Equal_Out_l1 s11 s22 m4 i3 = some r at h
    change AW _ _ _ ⟨slots [(0, rd (ksl kOut) s11), (1, rd (ksl kOut) s22), (12, rd (kint .i64) (s11.length : Int)), (13, rd (kint .i64) (i3 : Int))], ress [], _⟩
    cases m4 with
    | zero =>
      unfold F_slices_Equal_Out_l1 at h
      refine SR <| Ac (op_lss rfl rfl (vt rfl) (vt rfl)) rfl <| Nl <| AW.seq <| Cn rfl (fun hc => absurd (of_decide_eq_true hc) hsf1.zero) (fun hc => ?_)
      refine AW.exit <| SR <| Ab rfl <| Nl <| AW.ret ?_
      obtain rfl := si h
      exact ret1 Tryz.results94 rfl (out_tmp rfl)
    | succ m4 =>
      unfold F_slices_Equal_Out_l1 at h
      generalize hgo1 : F_slices_Equal_Out_l1 s11 s22 m4 = go1 at h
      refine SR <| Ac (op_lss rfl rfl (vt rfl) (vt rfl)) rfl <| Nl <| AW.seq <| Cn rfl (fun hc => ?_) (fun hc => absurd hsf1.succ (of_decide_eq_false hc))
      have hlti3 := of_decide_eq_true hc
      refine AW.skip <| AW.seq <| AW.block <| SR <| Md rfl <| As rfl <| Nl <| AW.seq ?_
      obtain ⟨e5, he5, h⟩ := bsome h
      obtain ⟨e6, he6, h⟩ := bsome h
      refine AW.regionAny [⟨[0], [16], [], []⟩, ⟨[5], [17], [], []⟩, ⟨[16, 17], [18], [], []⟩, ⟨[18], [19], [], []⟩, ⟨[1], [20], [], []⟩, ⟨[5], [21], [], []⟩, ⟨[20, 21], [22], [], []⟩, ⟨[22], [23], [], []⟩, ⟨[19, 23], [24], [], []⟩] mixed (by kernel_rfl) <| SMd rfl <| SMd rfl <| Sc (lo [16, 17] [] rfl fun S hs hr => op_indexs' rfl rfl sl46 (vh hs 16 rfl rfl) (vh hs 17 rfl rfl) he5) rfl <| SLp ty71 rfl <| SMd rfl <| SMd rfl <| Sc (lo [20, 21] [] rfl fun S hs hr => op_indexs' rfl rfl sl46 (vh hs 20 rfl rfl) (vh hs 21 rfl rfl) he6) rfl <| SLp ty71 rfl <| Sc (lo [19, 23] [] rfl fun S hs hr => op_neqk rfl rfl eqk71 (by decide) rfl eg71 (vh hs 19 rfl rfl) (vh hs 23 rfl rfl)) rfl <| Cn rfl (fun hc => ?_) (fun hc => ?_)
      · have h := cond_t hc h
        refine SR <| Ab rfl <| Nl <| AW.ret ?_
        obtain rfl := si h
        exact ret1 Tryz.results94 rfl (out_tmp rfl)
      · have h := cond_f hc h
        refine AW.skip <| Rg <| Ac (op_incr (t := 12) rfl rfl (vt rfl) (vk rfl) (vt rfl) hlti3) rfl <| Md rfl <| Nl ?_
        subst hgo1
        exact ⟨(m4, i3 + 1), Nat.lt_succ_self _, ⟨hsf1.next, h⟩, ⟨rfl, ⟨rfl, rfl, rfl, rfl, trivial⟩, trivial⟩⟩
def F_exec_Same (a1 : (List Out)) (b2 : (List Out)) : Option Bool :=
  (F_slices_Equal_Out a1 b2).bind fun x3 => some x3
theorem c_exec_Same (a1 : (List Out)) (b2 : (List Out)) (r : Bool) (h : F_exec_Same a1 b2 = some r) : PCon Tryz.prog 38 [rd (ksl kOut) a1, rd (ksl kOut) b2] (rd kbool r) := by
  refine PCon.of (Con.intro0 Tryz.func38 rfl Tryz.ntmps38 rfl fun w H => ?_)
  unfold F_exec_Same at h
  refine SR <| Ab rfl <| Nl <| AW.seq ?_
  obtain ⟨x3, hx3, h⟩ := bsome h
  refine Rg <| Md rfl <| Md rfl <| Cl [5, 6] (c_slices_Equal_Out _ _ _ hx3) e94 rfl <| As rfl <| Nl <| AW.ret ?_
  obtain rfl := si h
  exact ret1 Tryz.results38 rfl (out_tmp rfl)
def F_l48_TraceAlone_l1 (s1 : Switch) (e2 : Env) (h3 : (Vector Wide 24)) : (List End) → Nat → (List Out) → Option Bool
  | [], i14, l12 => (F_sem_Out s1 e2 h3).bind fun x16 => (F_exec_Same l12 x16).bind fun x17 => (opt x17 (F_l48_awake)).bind fun x18 => some (x17 && x18)
  | x19 :: l15, i14, l12 => (bif ((!x19.Left) || (decide (x19.At ≠ 0))) then some false else (appd l12 [(⟨x19.Port, x19.Max, x19.Header⟩ : Out)]).bind fun l21 => (F_l48_TraceAlone_l1 s1 e2 h3 l15) (i14 + 1) l21)
def F_l48_TraceAlone (s1 : Switch) (e2 : Env) (h3 : (Vector Wide 24)) : Option Bool :=
  (F_pl_Switch s1 6).bind fun x7 => (bif ((!x7) || (decide ((e2.Down.length : Int) > 20))) then (F_l48_awake).bind fun x8 => some x8 else (F_trace_Run (⟨[s1], []⟩ : Net) e2 0 h3 1).bind fun x9 => F_l48_TraceAlone_l1 s1 e2 h3 x9 0 [])
theorem c_l48_TraceAlone (s1 : Switch) (e2 : Env) (h3 : (Vector Wide 24)) (r : Bool) (h : F_l48_TraceAlone s1 e2 h3 = some r) : PCon Tryz.prog 7 [rd kSwitch s1, rd kEnv e2, rd (karr 24 kWide) h3] (rd kbool r) := by
  refine PCon.of (Con.intro0 Tryz.func7 rfl Tryz.ntmps7 rfl fun w H => ?_)
  unfold F_l48_TraceAlone at h
  refine SR <| Ct rfl (op_box 4 rfl rfl (vt rfl)) ?_
  rintro _ ⟨g4, rfl⟩
  refine Ct rfl (op_box 5 rfl rfl (vt rfl)) ?_
  rintro _ ⟨g5, rfl⟩
  refine Ct rfl (op_box 6 rfl rfl (vt rfl)) ?_
  rintro _ ⟨g6, rfl⟩
  refine Ab rfl <| Nl <| AW.seq <| AW.seq ?_
  obtain ⟨x7, hx7, h⟩ := bsome h
  refine Rg <| Ld ty26 4 rfl <| Ac (op_call (xs := [.tmp 10, .const (Value.int IntKind.i64 6)]) (c_pl_Switch _ _ _ hx7) e21 rfl rfl ⟨vt rfl, vk rfl, trivial⟩) rfl <| Ac (op_not rfl rfl (vt rfl)) rfl <| Md rfl <| Gd rfl (fun hq => op_field lEnv_1 rfl rfl fl39_1 (vt rfl)) <| Gd rfl (fun hq => op_load rfl rfl ty37 (vgt rfl hq) (i := 5) rfl) <| Gd rfl (fun hq => op_len' rfl rfl sl37 (vgt rfl hq)) <| Gd rfl (fun hq => op_gtr rfl rfl (vgt rfl hq) (vk rfl)) <| Ac (op_any rfl rfl (vt rfl) (vt rfl)) rfl <| Nl <| Cn rfl (fun hc => ?_) (fun hc => ?_)
  · have h := cond_t hc h
    refine AW.seq ?_
    obtain ⟨x8, hx8, h⟩ := bsome h
    refine Rg <| Cl [] (c_l48_awake _ hx8) e36 rfl <| As rfl <| Nl <| AW.ret ?_
    obtain rfl := si h
    exact ret1 Tryz.results7 rfl (out_tmp rfl)
  · have h := cond_f hc h
    refine AW.skip <| AW.seq <| AW.newnil 1001 71 kOut <| Rg <| Ac (op_assign rfl rfl vc) rfl <| Nl <| AW.seq <| AW.seq ?_
    obtain ⟨x9, hx9, h⟩ := bsome h
    refine Rg <| Ld ty26 4 rfl <| Ac (op_buildSliceR (ps := [(0, .tmp 20)]) (l := [s1]) rfl rfl sl64 zr26 rfl rfl ⟨_, _, Lens.idx 1 kSwitch 0 (by decide), _, rfl, (vt rfl), rfl⟩ rfl) rfl <| Ac (op_build (ps := [(0, .tmp 21)]) (x := (⟨[s1], []⟩ : Net)) rfl rfl rfl (by kernel_rfl) zr67 ⟨_, _, lNet_0, _, by kernel_rfl, (vt rfl), rfl⟩) rfl <| Ld ty39 5 rfl <| Ld ty44 6 rfl <| Ac (op_call (xs := [.tmp 22, .tmp 23, .const (Value.int IntKind.i64 0), .tmp 24, .const (Value.int IntKind.i64 1)]) (c_trace_Run _ _ _ _ _ _ hx9) e37 rfl rfl ⟨vt rfl, vt rfl, vk rfl, vt rfl, vk rfl, trivial⟩) rfl <| Ac (op_len' rfl rfl sl62 (vt rfl)) rfl <| Mk rfl <| Nl <| AW.block <| AW.loopG (d := []) (ν := (List End) × Nat × (List Out) × Value) (fun n => Sfx x9 n.2.1 n.1 ∧ F_l48_TraceAlone_l1 s1 e2 h3 n.1 n.2.1 n.2.2.1 = some r) (fun n => n.1.length) (fun n => [(3, ptrL g4 (Lens.id kSwitch)), (4, ptrL g5 (Lens.id kEnv)), (5, ptrL g6 (Lens.id (karr 24 kWide))), (7, raw n.2.2.2), (25, rd (ksl kEnd) x9), (26, rd (kint .i64) (x9.length : Int)), (27, rd (kint .i64) (n.2.1 : Int))]) (fun n => [(4, Blk g4 26 kSwitch s1), (5, Blk g5 39 kEnv e2), (6, Blk g6 44 (karr 24 kWide) h3), (1001, Row n.2.2.2 71 kOut n.2.2.1)]) (x9, 0, [], (.slice none 0 0)) ⟨Sfx.start _, h⟩ ⟨rfl, ⟨rfl, rfl, rfl, rfl, rfl, rfl, rfl, trivial⟩, ⟨rfl, rfl, rfl, rfl, trivial⟩⟩ ?_
    rintro ⟨l15, i14, l12, v13⟩ ⟨hsf1, h⟩
    change Sfx x9 i14 l15 at hsf1
    change F_l48_TraceAlone_l1 s1 e2 h3 l15 i14 l12 = some r at h
    change AW _ _ _ ⟨slots [(3, ptrL g4 (Lens.id kSwitch)), (4, ptrL g5 (Lens.id kEnv)), (5, ptrL g6 (Lens.id (karr 24 kWide))), (7, raw v13), (25, rd (ksl kEnd) x9), (26, rd (kint .i64) (x9.length : Int)), (27, rd (kint .i64) (i14 : Int))], ress [(4, Blk g4 26 kSwitch s1), (5, Blk g5 39 kEnv e2), (6, Blk g6 44 (karr 24 kWide) h3), (1001, Row v13 71 kOut l12)], _⟩
    cases l15 with
    | nil =>
      unfold F_l48_TraceAlone_l1 at h
      refine SR <| Ac (op_lss rfl rfl (vt rfl) (vt rfl)) rfl <| Nl <| AW.seq <| Cn rfl (fun hc => absurd (of_decide_eq_true hc) hsf1.nil) (fun hc => ?_)
      refine AW.exit <| AW.seq ?_
      obtain ⟨x16, hx16, h⟩ := bsome h
      obtain ⟨x17, hx17, h⟩ := bsome h
      obtain ⟨x18, hx18, h⟩ := bsome h
      refine Rg <| Mw rfl <| Ld ty26 4 rfl <| Ld ty39 5 rfl <| Ld ty44 6 rfl <| Cl [51, 52, 53] (c_sem_Out _ _ _ _ hx16) e29 rfl <| Ac (op_callB (xs := [.tmp 50, .tmp 54]) 1001 (c_exec_Same _ _ _ hx17) e38 rfl rfl ⟨vL rfl rfl, vB (vt rfl), trivial⟩) rfl <| Md rfl <| Gd rfl (fun hq => op_call (xs := []) (c_l48_awake _ (opt_t hx18 hq)) e36 rfl rfl trivial) <| Ac (op_all rfl rfl (vt rfl) (vt rfl)) rfl <| As rfl <| Nl <| AW.ret ?_
      obtain rfl := si h
      exact ret1 Tryz.results7 rfl (out_tmp rfl)
    | cons x19 l15 =>
      unfold F_l48_TraceAlone_l1 at h
      generalize hgo1 : F_l48_TraceAlone_l1 s1 e2 h3 l15 = go1 at h
      refine SR <| Ac (op_lss rfl rfl (vt rfl) (vt rfl)) rfl <| Nl <| AW.seq <| Cn rfl (fun hc => ?_) (fun hc => absurd hsf1.cons (of_decide_eq_false hc))
      have hlti14 := of_decide_eq_true hc
      refine AW.skip <| AW.seq <| AW.block <| SR <| Ac (op_indexs' rfl rfl sl62 (vt rfl) (vt rfl) hsf1.lget) rfl <| Lp1 ty69 rfl <| Ct rfl (op_alloc 10 rfl rfl zr69) ?_
      rintro _ ⟨g20, rfl⟩
      refine Sto ty69 10 rfl <| Nl <| AW.seq <| SR <| FdA lEnd_3 fl69_3 rfl <| Ld ty4 10 rfl <| Ac (op_not rfl rfl (vt rfl)) rfl <| Md rfl <| Gd rfl (fun hq => op_field lEnd_0 rfl rfl fl69_0 (vt rfl)) <| Gd rfl (fun hq => op_load rfl rfl ty3 (vgt rfl hq) (i := 10) rfl) <| Gd rfl (fun hq => op_neq rfl rfl (vgt rfl hq) (vk rfl)) <| Ac (op_any rfl rfl (vt rfl) (vt rfl)) rfl <| Nl <| Cn rfl (fun hc => ?_) (fun hc => ?_)
      · have h := cond_t hc h
        refine SR <| Ab rfl <| Nl <| AW.ret ?_
        obtain rfl := si h
        exact ret1 Tryz.results7 rfl (out_tmp rfl)
      · have h := cond_f hc h
        refine AW.skip ?_
        obtain ⟨l21, hl21, h⟩ := bsome h
        refine Rg <| Mw rfl <| FdA lEnd_1 fl69_1 rfl <| Ld ty3 10 rfl <| FdA lEnd_2 fl69_2 rfl <| Ld ty3 10 rfl <| FdA lEnd_4 fl69_4 rfl <| Ld ty44 10 rfl <| Ac (op_build (ps := [(0, .tmp 41), (1, .tmp 43), (2, .tmp 45)]) (x := (⟨x19.Port, x19.Max, x19.Header⟩ : Out)) rfl rfl rfl (by kernel_rfl) zr71 ⟨_, _, lOut_0, _, by kernel_rfl, (vt rfl), _, _, lOut_1, _, by kernel_rfl, (vt rfl), _, _, lOut_2, _, by kernel_rfl, (vt rfl), rfl⟩) rfl <| Ac (op_buildSliceR (ps := [(0, .tmp 46)]) (l := [(⟨x19.Port, x19.Max, x19.Header⟩ : Out)]) rfl rfl sl46 zr71 rfl rfl ⟨_, _, Lens.idx 1 kOut 0 (by decide), _, rfl, (vt rfl), rfl⟩ rfl) rfl <| Ct rfl (op_append' 1001 hl21 rfl rfl el46 (vt rfl) rfl (vt rfl)) ?_
        rintro _ ⟨v22, rfl⟩
        refine Aw rfl <| Nl <| Rg <| Ac (op_incr (t := 26) rfl rfl (vt rfl) (vk rfl) (vt rfl) hlti14) rfl <| Md rfl <| Nl ?_
        subst hgo1
        exact ⟨(l15, i14 + 1, l21, v22), Nat.lt_succ_self _, ⟨hsf1.next, h⟩, ⟨rfl, ⟨rfl, rfl, rfl, rfl, rfl, rfl, rfl, trivial⟩, ⟨rfl, rfl, rfl, rfl, trivial⟩⟩⟩
end Go.Proofs.YtknpgojdkobgjaaGreat.W
