/- A part of the proof. -/
import Derived.Test.YtknpgojdkobgjaaGreatG2
set_option linter.unusedVariables false
set_option maxRecDepth 4000
set_option linter.unusedSimpArgs false
namespace Go.Proofs.YtknpgojdkobgjaaGreat.W
open Go Go.Wb
theorem e234 : Ent Tryz.prog 234 := Ent.mk Tryz.func234 rfl rfl
theorem e272 : Ent Tryz.prog 272 := Ent.mk Tryz.func272 rfl rfl
theorem e119 : Ent Tryz.prog 119 := Ent.mk Tryz.func119 rfl rfl
theorem e276 : Ent Tryz.prog 276 := Ent.mk Tryz.func276 rfl rfl
theorem e277 : Ent Tryz.prog 277 := Ent.mk Tryz.func277 rfl rfl
theorem e153 : Ent Tryz.prog 153 := Ent.mk Tryz.func153 rfl rfl
theorem e155 : Ent Tryz.prog 155 := Ent.mk Tryz.func155 rfl rfl
theorem e223 : Ent Tryz.prog 223 := Ent.mk Tryz.func223 rfl rfl
theorem e150 : Ent Tryz.prog 150 := Ent.mk Tryz.func150 rfl rfl
theorem e151 : Ent Tryz.prog 151 := Ent.mk Tryz.func151 rfl rfl
theorem e152 : Ent Tryz.prog 152 := Ent.mk Tryz.func152 rfl rfl
theorem e87 : Ent Tryz.prog 87 := Ent.mk Tryz.func87 rfl rfl
theorem e21 : Ent Tryz.prog 21 := Ent.mk Tryz.func21 rfl rfl
theorem e27 : Ent Tryz.prog 27 := Ent.mk Tryz.func27 rfl rfl
theorem e30 : Ent Tryz.prog 30 := Ent.mk Tryz.func30 rfl rfl
theorem e28 : Ent Tryz.prog 28 := Ent.mk Tryz.func28 rfl rfl
theorem e33 : Ent Tryz.prog 33 := Ent.mk Tryz.func33 rfl rfl
def F_r30_deep_s_j2 (l15 : (List Out)) (go1 : (Vector Wide 24) → (List Out) → Int → Option ((List Out) × (Vector Wide 24))) (b14 : (Vector Wide 24)) (i17 : Int) (b22 : Out) : Option ((List Out) × (Vector Wide 24)) :=
  (appd l15 [b22]).bind fun l23 => go1 b14 l23 (IntKind.i64.wrap (i17 + 1))
def F_r30_deep_s_l1 (acts3 : (List Action)) (R_r30_group : ((List Group) → Env → Int → (Vector Wide 24) → Int → Option (List Out))) (l1 : (List Group)) (e2 : Env) (depth5 : Int) : Nat → (Vector Wide 24) → (List Out) → Int → Option ((List Out) × (Vector Wide 24))
  | 0, _, _, _ => none
  | m18 + 1, b14, l15, i17 => (bif (decide (i17 < (acts3.length : Int))) then (lget acts3 i17).bind fun e19 => (bif (decide (e19.Kind = 0)) then (lget acts3 i17).bind fun e20 => (bif (decide (((⟨e20.Port, 0, b14⟩ : Out).Port) = 4294967293)) then (lget acts3 i17).bind fun e25 => F_r30_deep_s_j2 l15 (F_r30_deep_s_l1 acts3 R_r30_group l1 e2 depth5 m18) b14 i17 { (⟨e20.Port, 0, b14⟩ : Out) with Max := e25.Max } else F_r30_deep_s_j2 l15 (F_r30_deep_s_l1 acts3 R_r30_group l1 e2 depth5 m18) b14 i17 (⟨e20.Port, 0, b14⟩ : Out)) else (bif (decide (e19.Kind = 22)) then (lget acts3 i17).bind fun e26 => (R_r30_group l1 e2 e26.Group b14 (IntKind.i64.wrap (depth5 + 1))).bind fun x27 => (appd l15 x27).bind fun l28 => (F_r30_deep_s_l1 acts3 R_r30_group l1 e2 depth5 m18) b14 l28 (IntKind.i64.wrap (i17 + 1)) else (lget acts3 i17).bind fun e30 => (F_r28_Rewrite e30).bind fun x31 => (F_r09_Apply x31 b14).bind fun x32 => (F_r30_deep_s_l1 acts3 R_r30_group l1 e2 depth5 m18) x32 l15 (IntKind.i64.wrap (i17 + 1)))) else some (l15, b14))
def F_r30_deep_s (R_r30_deep : ((List Group) → Env → (List Action) → (Vector Wide 24) → Int → Option ((List Out) × (Vector Wide 24)))) (R_r30_group : ((List Group) → Env → Int → (Vector Wide 24) → Int → Option (List Out))) (l1 : (List Group)) (e2 : Env) (acts3 : (List Action)) (h4 : (Vector Wide 24)) (depth5 : Int) : Option ((List Out) × (Vector Wide 24)) :=
  F_r30_deep_s_l1 acts3 R_r30_group l1 e2 depth5 ((((acts3.length : Int) : Int) - 0).toNat + 1) h4 [] 0
theorem c_r30_deep_s (R_r30_deep : ((List Group) → Env → (List Action) → (Vector Wide 24) → Int → Option ((List Out) × (Vector Wide 24)))) (hR_r30_deep : ∀ (l1 : (List Group)) (e2 : Env) (acts3 : (List Action)) (h4 : (Vector Wide 24)) (depth5 : Int) (r : ((List Out) × (Vector Wide 24))), R_r30_deep l1 e2 acts3 h4 depth5 = some r → PCon Tryz.prog 223 [rd (ksl kGroup) l1, rd kEnv e2, rd (ksl kAction) acts3, rd (karr 24 kWide) h4, rd (kint .i64) depth5] (tup2 (rd (ksl kOut) r.1) (rd (karr 24 kWide) r.2))) (R_r30_group : ((List Group) → Env → Int → (Vector Wide 24) → Int → Option (List Out))) (hR_r30_group : ∀ (l1 : (List Group)) (e2 : Env) (id3 : Int) (h4 : (Vector Wide 24)) (depth5 : Int) (r : (List Out)), R_r30_group l1 e2 id3 h4 depth5 = some r → PCon Tryz.prog 234 [rd (ksl kGroup) l1, rd kEnv e2, rd (kint .i64) id3, rd (karr 24 kWide) h4, rd (kint .i64) depth5] (rd (ksl kOut) r)) (l1 : (List Group)) (e2 : Env) (acts3 : (List Action)) (h4 : (Vector Wide 24)) (depth5 : Int) (r : ((List Out) × (Vector Wide 24))) (h : F_r30_deep_s R_r30_deep R_r30_group l1 e2 acts3 h4 depth5 = some r) : PCon Tryz.prog 223 [rd (ksl kGroup) l1, rd kEnv e2, rd (ksl kAction) acts3, rd (karr 24 kWide) h4, rd (kint .i64) depth5] (tup2 (rd (ksl kOut) r.1) (rd (karr 24 kWide) r.2)) := by
  refine PCon.of (Con.intro0 Tryz.func223 rfl Tryz.ntmps223 rfl fun w H => ?_)
  unfold F_r30_deep_s at h
  refine SR <| Ct rfl (op_box 7 rfl rfl (vt rfl)) ?_
  rintro _ ⟨g6, rfl⟩
  refine Ct rfl (op_box 9 rfl rfl (vt rfl)) ?_
  rintro _ ⟨g7, rfl⟩
  refine Ac (op_assign (A := rd (ksl kOut) []) rfl rfl vnil) rfl <| Ct rfl (op_alloc 12 rfl rfl zr44) ?_
  rintro _ ⟨g8, rfl⟩
  refine Nl <| SR <| Ct rfl (op_buildSlice 1001 (ps := []) (l := []) rfl rfl sl46 zr71 rfl rfl rfl rfl) ?_
  rintro _ ⟨v9, rfl⟩
  refine Aw rfl <| Nl <| AW.seq <| SR <| Ak rfl <| Nl <| AW.block <| AW.loopG (d := []) (ν := Nat × (Vector Wide 24) × (List Out) × Int × Value) (fun n => True ∧ F_r30_deep_s_l1 acts3 R_r30_group l1 e2 depth5 n.1 n.2.1 n.2.2.1 n.2.2.2.1 = some r) (fun n => n.1) (fun n => [(0, rd (ksl kGroup) l1), (2, rd (ksl kAction) acts3), (4, rd (kint .i64) depth5), (6, ptrL g6 (Lens.id kEnv)), (8, ptrL g7 (Lens.id (karr 24 kWide))), (11, ptrL g8 (Lens.id (karr 24 kWide))), (12, raw n.2.2.2.2), (13, rd (kint .i64) n.2.2.2.1)]) (fun n => [(7, Blk g6 39 kEnv e2), (9, Blk g7 44 (karr 24 kWide) n.2.1), (12, Blk g8 44 (karr 24 kWide) (Vector.replicate 24 zWide)), (1001, Row n.2.2.2.2 71 kOut n.2.2.1)]) (((((acts3.length : Int) : Int) - 0).toNat + 1), h4, [], 0, v9) ⟨trivial, h⟩ ⟨rfl, ⟨rfl, rfl, rfl, rfl, rfl, rfl, rfl, rfl, trivial⟩, ⟨rfl, rfl, rfl, rfl, trivial⟩⟩ ?_
  rintro ⟨m18, b14, l15, i17, v16⟩ ⟨hsf1, h⟩
  change True at hsf1
  change F_r30_deep_s_l1 acts3 R_r30_group l1 e2 depth5 m18 b14 l15 i17 = some r at h
  change AW _ _ _ ⟨slots [(0, rd (ksl kGroup) l1), (2, rd (ksl kAction) acts3), (4, rd (kint .i64) depth5), (6, ptrL g6 (Lens.id kEnv)), (8, ptrL g7 (Lens.id (karr 24 kWide))), (11, ptrL g8 (Lens.id (karr 24 kWide))), (12, raw v16), (13, rd (kint .i64) i17)], ress [(7, Blk g6 39 kEnv e2), (9, Blk g7 44 (karr 24 kWide) b14), (12, Blk g8 44 (karr 24 kWide) (Vector.replicate 24 zWide)), (1001, Row v16 71 kOut l15)], _⟩
  cases m18 with
  | zero => cases h
  | succ m18 =>
    unfold F_r30_deep_s_l1 at h
    generalize hgo1 : F_r30_deep_s_l1 acts3 R_r30_group l1 e2 depth5 m18 = go1 at h
    refine AW.seq <| SR <| Md rfl <| Md rfl <| Ac (op_len' rfl rfl sl122 (vt rfl)) rfl <| Ac (op_lss rfl rfl (vt rfl) (vt rfl)) rfl <| Nl <| Cn rfl (fun hc => ?_) (fun hc => ?_)
    · have h := cond_t hc h
      refine AW.skip <| AW.seq <| AW.block <| AW.seq ?_
      obtain ⟨e19, he19, h⟩ := bsome h
      refine Rg <| Md rfl <| Md rfl <| Ac (op_indexs' rfl rfl sl122 (vt rfl) (vt rfl) he19) rfl <| Fp lAction_0 fl121_0 rfl <| Lp1 ty3 rfl <| Nl <| AW.block <| SR <| Ac (op_eql rfl rfl (vt rfl) (vk rfl)) rfl <| As rfl <| Nl <| Cn rfl (fun hc => ?_) (fun hc => ?_)
      · have h := cond_t hc h
        refine AW.seq ?_
        obtain ⟨e20, he20, h⟩ := bsome h
        refine AW.regionAny [⟨[2], [36], [], []⟩, ⟨[13], [37], [], []⟩, ⟨[36, 37], [38], [], []⟩, ⟨[38], [39], [], []⟩, ⟨[39], [40], [], []⟩, ⟨[8], [41], [9], []⟩, ⟨[40, 41], [42], [], []⟩, ⟨[], [14], [], []⟩, ⟨[14, 42], [14], [], []⟩] mixed (by kernel_rfl) <| SMd rfl <| SMd rfl <| Sc (lo [36, 37] [] rfl fun S hs hr => op_indexs' rfl rfl sl122 (vh hs 36 rfl rfl) (vh hs 37 rfl rfl) he20) rfl <| SFp lAction_1 fl121_1 rfl <| SLp ty3 rfl <| SLd ty44 9 rfl <| Sc (lo [40, 41] [] rfl fun S hs hr => op_build (ps := [(0, .tmp 40), (2, .tmp 41)]) (x := (⟨e20.Port, 0, b14⟩ : Out)) rfl rfl rfl (by kernel_rfl) zr71 ⟨_, _, lOut_0, _, by kernel_rfl, (vh hs 40 rfl rfl), _, _, lOut_2, _, by kernel_rfl, (vh hs 41 rfl rfl), rfl⟩) rfl <| Sc (locs (us := [(14, ownP 71 kOut zOut)]) (ur := []) [] [] rfl fun S hs hr => op_allocO rfl rfl rfl zr71) rfl <| Sc (locs (us := [(14, ownP 71 kOut (⟨e20.Port, 0, b14⟩ : Out))]) (ur := []) [14, 42] [] rfl fun S hs hr => op_storeO rfl rfl ty71 ((hs 14 rfl).trans rfl) (vh hs 42 rfl rfl)) rfl <| AW.unpackP 14 15 rfl rfl fun g21 => ?_
        refine AW.join (d := []) (ν := Out) (fun n => F_r30_deep_s_j2 l15 go1 b14 i17 n = some r) (fun n => [(0, rd (ksl kGroup) l1), (2, rd (ksl kAction) acts3), (4, rd (kint .i64) depth5), (6, ptrL g6 (Lens.id kEnv)), (8, ptrL g7 (Lens.id (karr 24 kWide))), (11, ptrL g8 (Lens.id (karr 24 kWide))), (12, raw v16), (13, rd (kint .i64) i17), (14, ptrL g21 (Lens.id kOut))]) (fun n => [(7, Blk g6 39 kEnv e2), (9, Blk g7 44 (karr 24 kWide) b14), (12, Blk g8 44 (karr 24 kWide) (Vector.replicate 24 zWide)), (15, Blk g21 71 kOut n), (1001, Row v16 71 kOut l15)]) ?hx2 ?hy2
        case hy2 =>
          intro b22 h
          unfold F_r30_deep_s_j2 at h
          change AW _ _ _ ⟨slots [(0, rd (ksl kGroup) l1), (2, rd (ksl kAction) acts3), (4, rd (kint .i64) depth5), (6, ptrL g6 (Lens.id kEnv)), (8, ptrL g7 (Lens.id (karr 24 kWide))), (11, ptrL g8 (Lens.id (karr 24 kWide))), (12, raw v16), (13, rd (kint .i64) i17), (14, ptrL g21 (Lens.id kOut))], ress [(7, Blk g6 39 kEnv e2), (9, Blk g7 44 (karr 24 kWide) b14), (12, Blk g8 44 (karr 24 kWide) (Vector.replicate 24 zWide)), (15, Blk g21 71 kOut b22), (1001, Row v16 71 kOut l15)], _⟩
          obtain ⟨l23, hl23, h⟩ := bsome h
          refine Rg <| Mw rfl <| Ld ty71 15 rfl <| Ac (op_buildSliceR (ps := [(0, .tmp 53)]) (l := [b22]) rfl rfl sl46 zr71 rfl rfl ⟨_, _, Lens.idx 1 kOut 0 (by decide), _, rfl, (vt rfl), rfl⟩ rfl) rfl <| Ct rfl (op_append' 1001 hl23 rfl rfl el46 (vt rfl) rfl (vt rfl)) ?_
          rintro _ ⟨v24, rfl⟩
          refine Aw rfl <| Nl <| Rg <| Md rfl <| Ac (op_add rfl rfl (vt rfl) (vk rfl)) rfl <| As rfl <| Nl ?_
          subst hgo1
          exact ⟨(m18, b14, l23, (IntKind.i64.wrap (i17 + 1)), v24), Nat.lt_succ_self _, ⟨trivial, h⟩, ⟨rfl, ⟨rfl, rfl, rfl, rfl, rfl, rfl, rfl, rfl, trivial⟩, ⟨rfl, rfl, rfl, rfl, trivial⟩⟩⟩
        case hx2 =>
          refine SR <| FdA lOut_0 fl71_0 rfl <| Ld ty3 15 rfl <| Ac (op_eql rfl rfl (vt rfl) (vk rfl)) rfl <| Nl <| Cn rfl (fun hc => ?_) (fun hc => ?_)
          · have h := cond_t hc h
            obtain ⟨e25, he25, h⟩ := bsome h
            refine Rg <| Md rfl <| Md rfl <| Ac (op_indexs' rfl rfl sl122 (vt rfl) (vt rfl) he25) rfl <| Fp lAction_2 fl121_2 rfl <| Lp1 ty3 rfl <| FdA lOut_1 fl71_1 rfl <| Sto ty3 15 rfl <| Nl ?_
            exact ⟨{ (⟨e20.Port, 0, b14⟩ : Out) with Max := e25.Max }, h, ⟨rfl, ⟨rfl, rfl, rfl, rfl, rfl, rfl, rfl, rfl, rfl, trivial⟩, ⟨rfl, rfl, rfl, rfl, rfl, trivial⟩⟩⟩
          · have h := cond_f hc h
            refine AW.skip ?_
            exact ⟨(⟨e20.Port, 0, b14⟩ : Out), h, ⟨rfl, ⟨rfl, rfl, rfl, rfl, rfl, rfl, rfl, rfl, rfl, trivial⟩, ⟨rfl, rfl, rfl, rfl, rfl, trivial⟩⟩⟩
      · have h := cond_f hc h
        refine SR <| Ac (op_eql rfl rfl (vt rfl) (vk rfl)) rfl <| As rfl <| Nl <| Cn rfl (fun hc => ?_) (fun hc => ?_)
        · have h := cond_t hc h
          obtain ⟨e26, he26, h⟩ := bsome h
          obtain ⟨x27, hx27, h⟩ := bsome h
          obtain ⟨l28, hl28, h⟩ := bsome h
          refine AW.regionAny [⟨[12], [58], [], []⟩, ⟨[0], [59], [], []⟩, ⟨[6], [60], [7], []⟩, ⟨[2], [61], [], []⟩, ⟨[13], [62], [], []⟩, ⟨[61, 62], [63], [], []⟩, ⟨[63], [64], [], []⟩, ⟨[64], [65], [], []⟩, ⟨[8], [66], [9], []⟩, ⟨[4], [67], [], []⟩, ⟨[67], [68], [], []⟩, ⟨[59, 60, 65, 66, 68], [69], [], []⟩, ⟨[58, 69], [70], [1001], [1001]⟩, ⟨[70], [70, 12], [1002], []⟩] mixed (by kernel_rfl) <| SMw rfl <| SMd rfl <| SLd ty39 7 rfl <| SMd rfl <| SMd rfl <| Sc (lo [61, 62] [] rfl fun S hs hr => op_indexs' rfl rfl sl122 (vh hs 61 rfl rfl) (vh hs 62 rfl rfl) he26) rfl <| SFp lAction_3 fl121_3 rfl <| SLp ty3 rfl <| SLd ty44 9 rfl <| SMd rfl <| Sc (lo [67] [] rfl fun S hs hr => op_add rfl rfl (vh hs 67 rfl rfl) (vk rfl)) rfl <| SCl [59, 60, 65, 66, 68] (hR_r30_group _ _ _ _ _ _ hx27) e234 rfl <| Sc (locs (us := [(70, ownR 71 kOut l28)]) (ur := [(1001, emp)]) [58, 69] [1001] rfl fun S hs hr => op_appendO 1001 hl28 rfl rfl rfl el46 (vh hs 58 rfl rfl) ((hr 1001 rfl).trans rfl) (vh hs 69 rfl rfl)) rfl <| Sc (locs (us := [(70, top), (12, ownR 71 kOut l28)]) (ur := []) [70] [1002] rfl fun S hs hr => op_assignO 1002 rfl rfl rfl rfl ((hs 70 rfl).trans rfl) ((hr 1002 rfl).trans rfl)) rfl <| AW.unpackR 12 1001 rfl rfl fun v29 => Rg <| Md rfl <| Ac (op_add rfl rfl (vt rfl) (vk rfl)) rfl <| As rfl <| Nl ?_
          subst hgo1
          exact ⟨(m18, b14, l28, (IntKind.i64.wrap (i17 + 1)), v29), Nat.lt_succ_self _, ⟨trivial, h⟩, ⟨rfl, ⟨rfl, rfl, rfl, rfl, rfl, rfl, rfl, rfl, trivial⟩, ⟨rfl, rfl, rfl, rfl, trivial⟩⟩⟩
        · have h := cond_f hc h
          obtain ⟨e30, he30, h⟩ := bsome h
          obtain ⟨x31, hx31, h⟩ := bsome h
          obtain ⟨x32, hx32, h⟩ := bsome h
          refine AW.regionAny [⟨[2], [27], [], []⟩, ⟨[13], [28], [], []⟩, ⟨[27, 28], [29], [], []⟩, ⟨[29], [30], [], []⟩, ⟨[30], [31], [], []⟩, ⟨[8], [32], [9], []⟩, ⟨[31, 32], [33], [], []⟩, ⟨[8, 33], [], [9], [9]⟩] mixed (by kernel_rfl) <| SMd rfl <| SMd rfl <| Sc (lo [27, 28] [] rfl fun S hs hr => op_indexs' rfl rfl sl122 (vh hs 27 rfl rfl) (vh hs 28 rfl rfl) he30) rfl <| SLp ty121 rfl <| SCl [30] (c_r28_Rewrite _ _ hx31) e272 rfl <| SLd ty44 9 rfl <| SCl [31, 32] (c_r09_Apply _ _ _ hx32) e119 rfl <| SSt ty44 9 rfl <| Rg <| Md rfl <| Ac (op_add rfl rfl (vt rfl) (vk rfl)) rfl <| As rfl <| Nl ?_
          subst hgo1
          exact ⟨(m18, x32, l15, (IntKind.i64.wrap (i17 + 1)), v16), Nat.lt_succ_self _, ⟨trivial, h⟩, ⟨rfl, ⟨rfl, rfl, rfl, rfl, rfl, rfl, rfl, rfl, trivial⟩, ⟨rfl, rfl, rfl, rfl, trivial⟩⟩⟩
    · have h := cond_f hc h
      refine AW.exit <| AW.seq <| AW.regionAny [⟨[12], [71], [], []⟩, ⟨[8], [72], [9], []⟩, ⟨[71], [10], [], []⟩, ⟨[11, 72], [], [12], [12]⟩] mixed (by kernel_rfl) <| SMw rfl <| SLd ty44 9 rfl <| Sc (lo [71] [] rfl fun S hs hr => op_assign (A := raw v16) rfl rfl (vh hs 71 rfl rfl)) rfl <| SSt ty44 12 rfl <| AW.freezes [10, 12, 71] 1001 rfl ⟨rfl, rfl, rfl, trivial⟩ rfl <| AW.ret ?_
      obtain rfl := si h
      exact ret2 Tryz.results223 rfl (out_tmp rfl) (out_cell rfl (i := 12) rfl ty44)
def F_r30_group_s_l1 (x11 : (List Int)) (x9 : (Group × Bool)) (R_r30_deep : ((List Group) → Env → (List Action) → (Vector Wide 24) → Int → Option ((List Out) × (Vector Wide 24)))) (l1 : (List Group)) (e2 : Env) (h4 : (Vector Wide 24)) (depth5 : Int) : Nat → (List Out) → Int → Option (List Out)
  | 0, _, _ => none
  | m18 + 1, l15, i17 => (bif (decide (i17 < (x11.length : Int))) then (lget x11 i17).bind fun e19 => (lget x9.1.Buckets e19).bind fun e20 => (F_r28_Write [] e20.Acts).bind fun x21 => (F_r28_List x21).bind fun x22 => (R_r30_deep l1 e2 x22 h4 depth5).bind fun x23 => (appd l15 x23.1).bind fun l25 => (F_r30_group_s_l1 x11 x9 R_r30_deep l1 e2 h4 depth5 m18) l25 (IntKind.i64.wrap (i17 + 1)) else some l15)
def F_r30_group_s (R_r30_deep : ((List Group) → Env → (List Action) → (Vector Wide 24) → Int → Option ((List Out) × (Vector Wide 24)))) (R_r30_group : ((List Group) → Env → Int → (Vector Wide 24) → Int → Option (List Out))) (l1 : (List Group)) (e2 : Env) (id3 : Int) (h4 : (Vector Wide 24)) (depth5 : Int) : Option (List Out) :=
  (F_r24_Find l1 id3).bind fun x9 => (bif ((!x9.2) || (decide (depth5 > 8))) then some [] else (F_r29_Takes e2 x9.1).bind fun x11 => F_r30_group_s_l1 x11 x9 R_r30_deep l1 e2 h4 depth5 ((((x11.length : Int) : Int) - 0).toNat + 1) [] 0)
theorem c_r30_group_s (R_r30_deep : ((List Group) → Env → (List Action) → (Vector Wide 24) → Int → Option ((List Out) × (Vector Wide 24)))) (hR_r30_deep : ∀ (l1 : (List Group)) (e2 : Env) (acts3 : (List Action)) (h4 : (Vector Wide 24)) (depth5 : Int) (r : ((List Out) × (Vector Wide 24))), R_r30_deep l1 e2 acts3 h4 depth5 = some r → PCon Tryz.prog 223 [rd (ksl kGroup) l1, rd kEnv e2, rd (ksl kAction) acts3, rd (karr 24 kWide) h4, rd (kint .i64) depth5] (tup2 (rd (ksl kOut) r.1) (rd (karr 24 kWide) r.2))) (R_r30_group : ((List Group) → Env → Int → (Vector Wide 24) → Int → Option (List Out))) (hR_r30_group : ∀ (l1 : (List Group)) (e2 : Env) (id3 : Int) (h4 : (Vector Wide 24)) (depth5 : Int) (r : (List Out)), R_r30_group l1 e2 id3 h4 depth5 = some r → PCon Tryz.prog 234 [rd (ksl kGroup) l1, rd kEnv e2, rd (kint .i64) id3, rd (karr 24 kWide) h4, rd (kint .i64) depth5] (rd (ksl kOut) r)) (l1 : (List Group)) (e2 : Env) (id3 : Int) (h4 : (Vector Wide 24)) (depth5 : Int) (r : (List Out)) (h : F_r30_group_s R_r30_deep R_r30_group l1 e2 id3 h4 depth5 = some r) : PCon Tryz.prog 234 [rd (ksl kGroup) l1, rd kEnv e2, rd (kint .i64) id3, rd (karr 24 kWide) h4, rd (kint .i64) depth5] (rd (ksl kOut) r) := by
  refine PCon.of (Con.intro0 Tryz.func234 rfl Tryz.ntmps234 rfl fun w H => ?_)
  unfold F_r30_group_s at h
  refine SR <| Ct rfl (op_box 7 rfl rfl (vt rfl)) ?_
  rintro _ ⟨g6, rfl⟩
  refine Ct rfl (op_box 9 rfl rfl (vt rfl)) ?_
  rintro _ ⟨g7, rfl⟩
  refine Ac (op_assign (A := rd (ksl kOut) []) rfl rfl vnil) rfl <| Nl <| SR <| Ct rfl (op_buildSlice 1001 (ps := []) (l := []) rfl rfl sl46 zr71 rfl rfl rfl rfl) ?_
  rintro _ ⟨v8, rfl⟩
  refine Aw rfl <| Nl <| AW.seq ?_
  obtain ⟨x9, hx9, h⟩ := bsome h
  refine Rg <| Md rfl <| Md rfl <| Cl [20, 21] (c_r24_Find _ _ _ hx9) e276 rfl <| Mt2 rfl <| Ac (op_fst rfl rfl (vt rfl)) rfl <| Ac (op_snd rfl rfl (vt rfl)) rfl <| Ct rfl (op_alloc 13 rfl rfl zr164) ?_
  rintro _ ⟨g10, rfl⟩
  refine Sto ty164 13 rfl <| As rfl <| Nl <| AW.seq <| SR <| Md rfl <| Ac (op_not rfl rfl (vt rfl)) rfl <| Md rfl <| Gd rfl (fun hq => op_move (A := rd (kint .i64) depth5) rfl rfl (vt rfl)) <| Gd rfl (fun hq => op_gtr rfl rfl (vgt rfl hq) (vk rfl)) <| Ac (op_any rfl rfl (vt rfl) (vt rfl)) rfl <| Nl <| Cn rfl (fun hc => ?_) (fun hc => ?_)
  · have h := cond_t hc h
    refine SR <| Mw rfl <| Aw rfl <| Nl <| AW.freezes [10, 11, 18, 31] 1001 rfl ⟨rfl, rfl, rfl, rfl, trivial⟩ rfl <| AW.ret ?_
    obtain rfl := si h
    exact ret1 Tryz.results234 rfl (out_tmp rfl)
  · have h := cond_f hc h
    refine AW.skip <| AW.seq ?_
    obtain ⟨x11, hx11, h⟩ := bsome h
    refine Rg <| Ld ty39 7 rfl <| Ld ty164 13 rfl <| Cl [32, 33] (c_r29_Takes _ _ _ hx11) e277 rfl <| As rfl <| Nl <| AW.seq <| SR <| Ak rfl <| Nl <| AW.block <| AW.loopG (d := []) (ν := Nat × (List Out) × Int × Value) (fun n => True ∧ F_r30_group_s_l1 x11 x9 R_r30_deep l1 e2 h4 depth5 n.1 n.2.1 n.2.2.1 = some r) (fun n => n.1) (fun n => [(0, rd (ksl kGroup) l1), (4, rd (kint .i64) depth5), (6, ptrL g6 (Lens.id kEnv)), (8, ptrL g7 (Lens.id (karr 24 kWide))), (11, raw n.2.2.2), (12, ptrL g10 (Lens.id kGroup)), (14, rd (ksl (kint .i64)) x11), (15, rd (kint .i64) n.2.2.1)]) (fun n => [(7, Blk g6 39 kEnv e2), (9, Blk g7 44 (karr 24 kWide) h4), (13, Blk g10 164 kGroup x9.1), (1001, Row n.2.2.2 71 kOut n.2.1)]) (((((x11.length : Int) : Int) - 0).toNat + 1), [], 0, v8) ⟨trivial, h⟩ ⟨rfl, ⟨rfl, rfl, rfl, rfl, rfl, rfl, rfl, rfl, trivial⟩, ⟨rfl, rfl, rfl, rfl, trivial⟩⟩ ?_
    rintro ⟨m18, l15, i17, v16⟩ ⟨hsf1, h⟩
    change True at hsf1
    change F_r30_group_s_l1 x11 x9 R_r30_deep l1 e2 h4 depth5 m18 l15 i17 = some r at h
    change AW _ _ _ ⟨slots [(0, rd (ksl kGroup) l1), (4, rd (kint .i64) depth5), (6, ptrL g6 (Lens.id kEnv)), (8, ptrL g7 (Lens.id (karr 24 kWide))), (11, raw v16), (12, ptrL g10 (Lens.id kGroup)), (14, rd (ksl (kint .i64)) x11), (15, rd (kint .i64) i17)], ress [(7, Blk g6 39 kEnv e2), (9, Blk g7 44 (karr 24 kWide) h4), (13, Blk g10 164 kGroup x9.1), (1001, Row v16 71 kOut l15)], _⟩
    cases m18 with
    | zero => cases h
    | succ m18 =>
      unfold F_r30_group_s_l1 at h
      generalize hgo1 : F_r30_group_s_l1 x11 x9 R_r30_deep l1 e2 h4 depth5 m18 = go1 at h
      refine AW.seq <| SR <| Md rfl <| Md rfl <| Ac (op_len' rfl rfl sl37 (vt rfl)) rfl <| Ac (op_lss rfl rfl (vt rfl) (vt rfl)) rfl <| Nl <| Cn rfl (fun hc => ?_) (fun hc => ?_)
      · have h := cond_t hc h
        refine AW.skip <| AW.seq <| AW.block <| AW.seq ?_
        obtain ⟨e19, he19, h⟩ := bsome h
        obtain ⟨e20, he20, h⟩ := bsome h
        obtain ⟨x21, hx21, h⟩ := bsome h
        obtain ⟨x22, hx22, h⟩ := bsome h
        obtain ⟨x23, hx23, h⟩ := bsome h
        refine AW.regionAny [⟨[0], [42], [], []⟩, ⟨[6], [43], [7], []⟩, ⟨[12], [44], [], []⟩, ⟨[44], [45], [13], []⟩, ⟨[14], [46], [], []⟩, ⟨[15], [47], [], []⟩, ⟨[46, 47], [48], [], []⟩, ⟨[48], [49], [], []⟩, ⟨[45, 49], [50], [], []⟩, ⟨[50], [51], [], []⟩, ⟨[51], [52], [], []⟩, ⟨[52], [53], [], []⟩, ⟨[53], [54], [], []⟩, ⟨[8], [55], [9], []⟩, ⟨[4], [56], [], []⟩, ⟨[42, 43, 54, 55, 56], [57], [], []⟩, ⟨[57], [41], [], []⟩, ⟨[41], [58], [], []⟩, ⟨[41], [59], [], []⟩, ⟨[], [17], [], []⟩, ⟨[58], [16], [], []⟩, ⟨[17, 59], [17], [], []⟩] mixed (by kernel_rfl) <| SMd rfl <| SLd ty39 7 rfl <| SFd lGroup_2 fl164_2 rfl <| SLd ty162 13 rfl <| SMd rfl <| SMd rfl <| Sc (lo [46, 47] [] rfl fun S hs hr => op_indexs' rfl rfl sl37 (vh hs 46 rfl rfl) (vh hs 47 rfl rfl) he19) rfl <| SLp ty3 rfl <| Sc (lo [45, 49] [] rfl fun S hs hr => op_indexs' rfl rfl sl162 (vh hs 45 rfl rfl) (vh hs 49 rfl rfl) he20) rfl <| SFp lBucket_3 fl226_3 rfl <| SLp ty122 rfl <| Sc (lo [52] [] rfl fun S hs hr => op_call (xs := [.const (Value.slice none 0 0), .tmp 52]) (c_r28_Write _ _ _ hx21) e153 rfl rfl ⟨vnil, vt ((hs 52 rfl).trans rfl), trivial⟩) rfl <| SCl [53] (c_r28_List _ _ hx22) e155 rfl <| SLd ty44 9 rfl <| SMd rfl <| SCl [42, 43, 54, 55, 56] (hR_r30_deep _ _ _ _ _ _ hx23) e223 rfl <| Sc (lo [57] [] rfl fun S hs hr => op_move (A := tup2 (rd (ksl kOut) x23.1) (rd (karr 24 kWide) x23.2)) rfl rfl (vh hs 57 rfl rfl)) rfl <| Sc (lo [41] [] rfl fun S hs hr => op_fst rfl rfl (vh hs 41 rfl rfl)) rfl <| Sc (lo [41] [] rfl fun S hs hr => op_snd rfl rfl (vh hs 41 rfl rfl)) rfl <| Sc (locs (us := [(17, ownP 44 (karr 24 kWide) (Vector.replicate 24 zWide))]) (ur := []) [] [] rfl fun S hs hr => op_allocO rfl rfl rfl zr44) rfl <| SAs rfl <| Sc (locs (us := [(17, ownP 44 (karr 24 kWide) x23.2)]) (ur := []) [17, 59] [] rfl fun S hs hr => op_storeO rfl rfl ty44 ((hs 17 rfl).trans rfl) (vh hs 59 rfl rfl)) rfl <| AW.unpackP 17 18 rfl rfl fun g24 => ?_
        obtain ⟨l25, hl25, h⟩ := bsome h
        refine Rg <| Mw rfl <| Md rfl <| Ct rfl (op_append' 1001 hl25 rfl rfl el46 (vt rfl) rfl (vt rfl)) ?_
        rintro _ ⟨v26, rfl⟩
        refine Aw rfl <| Nl <| Rg <| Md rfl <| Ac (op_add rfl rfl (vt rfl) (vk rfl)) rfl <| As rfl <| Nl ?_
        subst hgo1
        exact ⟨(m18, l25, (IntKind.i64.wrap (i17 + 1)), v26), Nat.lt_succ_self _, ⟨trivial, h⟩, ⟨rfl, ⟨rfl, rfl, rfl, rfl, rfl, rfl, rfl, rfl, trivial⟩, ⟨rfl, rfl, rfl, rfl, trivial⟩⟩⟩
      · have h := cond_f hc h
        refine AW.exit <| SR <| Mw rfl <| Aw rfl <| Nl <| AW.freezes [10, 11, 63] 1001 rfl ⟨rfl, rfl, rfl, trivial⟩ rfl <| AW.ret ?_
        obtain rfl := si h
        exact ret1 Tryz.results234 rfl (out_tmp rfl)
def FR_r30_deep__r30_group : Nat → ((List Group) → Env → (List Action) → (Vector Wide 24) → Int → Option ((List Out) × (Vector Wide 24))) × ((List Group) → Env → Int → (Vector Wide 24) → Int → Option (List Out))
  | 0 => ((fun _ _ _ _ _ => none), (fun _ _ _ _ _ => none))
  | n + 1 => ((F_r30_deep_s (FR_r30_deep__r30_group n).1 (FR_r30_deep__r30_group n).2), (F_r30_group_s (FR_r30_deep__r30_group n).1 (FR_r30_deep__r30_group n).2))
theorem cR_r30_deep__r30_group : ∀ n : Nat, (∀ (l1 : (List Group)) (e2 : Env) (acts3 : (List Action)) (h4 : (Vector Wide 24)) (depth5 : Int) (r : ((List Out) × (Vector Wide 24))), (FR_r30_deep__r30_group n).1 l1 e2 acts3 h4 depth5 = some r → PCon Tryz.prog 223 [rd (ksl kGroup) l1, rd kEnv e2, rd (ksl kAction) acts3, rd (karr 24 kWide) h4, rd (kint .i64) depth5] (tup2 (rd (ksl kOut) r.1) (rd (karr 24 kWide) r.2))) ∧ (∀ (l1 : (List Group)) (e2 : Env) (id3 : Int) (h4 : (Vector Wide 24)) (depth5 : Int) (r : (List Out)), (FR_r30_deep__r30_group n).2 l1 e2 id3 h4 depth5 = some r → PCon Tryz.prog 234 [rd (ksl kGroup) l1, rd kEnv e2, rd (kint .i64) id3, rd (karr 24 kWide) h4, rd (kint .i64) depth5] (rd (ksl kOut) r))
  | 0 => ⟨(by intros; rename_i h; cases h), (by intros; rename_i h; cases h)⟩
  | n + 1 => by
    have ih := cR_r30_deep__r30_group n
    exact ⟨(c_r30_deep_s (FR_r30_deep__r30_group n).1 ih.1 (FR_r30_deep__r30_group n).2 ih.2), (c_r30_group_s (FR_r30_deep__r30_group n).1 ih.1 (FR_r30_deep__r30_group n).2 ih.2)⟩
def F_r30_deep (l1 : (List Group)) (e2 : Env) (acts3 : (List Action)) (h4 : (Vector Wide 24)) (depth5 : Int) : Option ((List Out) × (Vector Wide 24)) := (FR_r30_deep__r30_group fuel0).1 l1 e2 acts3 h4 depth5
theorem c_r30_deep : ∀ (l1 : (List Group)) (e2 : Env) (acts3 : (List Action)) (h4 : (Vector Wide 24)) (depth5 : Int) (r : ((List Out) × (Vector Wide 24))), F_r30_deep l1 e2 acts3 h4 depth5 = some r → PCon Tryz.prog 223 [rd (ksl kGroup) l1, rd kEnv e2, rd (ksl kAction) acts3, rd (karr 24 kWide) h4, rd (kint .i64) depth5] (tup2 (rd (ksl kOut) r.1) (rd (karr 24 kWide) r.2)) := (cR_r30_deep__r30_group fuel0).1
def F_r30_Do (l1 : (List Group)) (e2 : Env) (acts3 : (List Action)) (h4 : (Vector Wide 24)) : Option ((List Out) × (Vector Wide 24)) :=
  (F_r30_deep l1 e2 acts3 h4 0).bind fun x8 => some (x8.1, x8.2)
theorem c_r30_Do (l1 : (List Group)) (e2 : Env) (acts3 : (List Action)) (h4 : (Vector Wide 24)) (r : ((List Out) × (Vector Wide 24))) (h : F_r30_Do l1 e2 acts3 h4 = some r) : PCon Tryz.prog 152 [rd (ksl kGroup) l1, rd kEnv e2, rd (ksl kAction) acts3, rd (karr 24 kWide) h4] (tup2 (rd (ksl kOut) r.1) (rd (karr 24 kWide) r.2)) := by
  refine PCon.of (Con.intro0 Tryz.func152 rfl Tryz.ntmps152 rfl fun w H => ?_)
  unfold F_r30_Do at h
  refine SR <| Ct rfl (op_box 6 rfl rfl (vt rfl)) ?_
  rintro _ ⟨g5, rfl⟩
  refine Ct rfl (op_box 8 rfl rfl (vt rfl)) ?_
  rintro _ ⟨g6, rfl⟩
  refine Ac (op_assign (A := rd (ksl kOut) []) rfl rfl vnil) rfl <| Ct rfl (op_alloc 10 rfl rfl zr44) ?_
  rintro _ ⟨g7, rfl⟩
  refine Nl <| AW.seq ?_
  obtain ⟨x8, hx8, h⟩ := bsome h
  refine Rg <| Md rfl <| Ld ty39 6 rfl <| Md rfl <| Ld ty44 8 rfl <| Ac (op_call (xs := [.tmp 10, .tmp 11, .tmp 12, .tmp 13, .const (Value.int IntKind.i64 0)]) (c_r30_deep _ _ _ _ _ _ hx8) e223 rfl rfl ⟨vt rfl, vt rfl, vt rfl, vt rfl, vk rfl, trivial⟩) rfl <| Ac (op_fst rfl rfl (vt rfl)) rfl <| Ac (op_snd rfl rfl (vt rfl)) rfl <| As rfl <| Sto ty44 10 rfl <| Nl <| AW.ret ?_
  obtain rfl := si h
  exact ret2 Tryz.results152 rfl (out_tmp rfl) (out_cell rfl (i := 10) rfl ty44)
def F_r31_way_j5 (e31 : Flow) (table22 : Int) (set36 : (List Action)) (s1 : Switch) (e2 : Env) (l33 : (List Out)) (l28 : (List Place)) (go1 : (Vector Wide 24) → (List Out) → (List Place) → (List Action) → Int → Option ((List Out) × (List Place))) (b37 : (Vector Wide 24)) : Option ((List Out) × (List Place)) :=
  (F_r14_Of e31.Insts 1).bind fun x38 => (bif (((!x38.2) || (decide (x38.1.Table ≤ table22))) || (decide (x38.1.Table ≥ 4))) then (F_r28_List set36).bind fun x40 => (F_r30_Do s1.Groups e2 x40 b37).bind fun x41 => (appd l33 x41.1).bind fun l43 => some (l43, l28) else go1 b37 l33 l28 set36 x38.1.Table)
def F_r31_way_j4 (e31 : Flow) (b32 : (Vector Wide 24)) (table22 : Int) (s1 : Switch) (e2 : Env) (l33 : (List Out)) (l28 : (List Place)) (go1 : (Vector Wide 24) → (List Out) → (List Place) → (List Action) → Int → Option ((List Out) × (List Place))) (set36 : (List Action)) : Option ((List Out) × (List Place)) :=
  (F_r14_Of e31.Insts 2).bind fun x45 => (bif x45.2 then (F_r09_None).bind fun x47 => (F_r09_Set x47 1 x45.1.Value x45.1.Mask).bind fun x48 => (F_r09_Apply x48 b32).bind fun x49 => F_r31_way_j5 e31 table22 set36 s1 e2 l33 l28 go1 x49 else F_r31_way_j5 e31 table22 set36 s1 e2 l33 l28 go1 b32)
def F_r31_way_j3 (e31 : Flow) (b32 : (Vector Wide 24)) (table22 : Int) (s1 : Switch) (e2 : Env) (l33 : (List Out)) (l28 : (List Place)) (go1 : (Vector Wide 24) → (List Out) → (List Place) → (List Action) → Int → Option ((List Out) × (List Place))) (set35 : (List Action)) : Option ((List Out) × (List Place)) :=
  (F_r14_Of e31.Insts 3).bind fun x50 => (bif x50.2 then (F_r28_Write set35 x50.1.Acts).bind fun x52 => F_r31_way_j4 e31 b32 table22 s1 e2 l33 l28 go1 x52 else F_r31_way_j4 e31 b32 table22 s1 e2 l33 l28 go1 set35)
def F_r31_way_j2 (e31 : Flow) (table22 : Int) (s1 : Switch) (e2 : Env) (l28 : (List Place)) (go1 : (Vector Wide 24) → (List Out) → (List Place) → (List Action) → Int → Option ((List Out) × (List Place))) (set21 : (List Action)) (b32 : (Vector Wide 24)) (l33 : (List Out)) : Option ((List Out) × (List Place)) :=
  (F_r14_Of e31.Insts 5).bind fun x53 => (bif x53.2 then F_r31_way_j3 e31 b32 table22 s1 e2 l33 l28 go1 [] else F_r31_way_j3 e31 b32 table22 s1 e2 l33 l28 go1 set21)
def F_r31_way_l1 (s1 : Switch) (e2 : Env) : Nat → (Vector Wide 24) → (List Out) → (List Place) → (List Action) → Int → Option ((List Out) × (List Place))
  | 0, _, _, _, _, _ => none
  | m23 + 1, b16, l17, l19, set21, table22 => (chk 4 table22).bind fun j24 => (F_r27_Find (Vector.get s1.Tables j24) b16).bind fun x25 => (bif (!x25.2) then (appd l19 [(⟨table22, (-1)⟩ : Place)]).bind fun l26 => some (l17, l26) else (appd l19 [(⟨table22, x25.1⟩ : Place)]).bind fun l28 => (chk 4 table22).bind fun j30 => (lget (Vector.get s1.Tables j30) x25.1).bind fun e31 => (F_r14_Of e31.Insts 4).bind fun x55 => (bif x55.2 then (F_r30_Do s1.Groups e2 x55.1.Acts b16).bind fun x57 => (appd l17 x57.1).bind fun l59 => F_r31_way_j2 e31 table22 s1 e2 l28 (F_r31_way_l1 s1 e2 m23) set21 x57.2 l59 else F_r31_way_j2 e31 table22 s1 e2 l28 (F_r31_way_l1 s1 e2 m23) set21 b16 l17))
def F_r31_way (s1 : Switch) (e2 : Env) (h3 : (Vector Wide 24)) : Option ((List Out) × (List Place)) :=
  F_r31_way_l1 s1 e2 fuel0 h3 [] [] ([] : List Action) 0
theorem c_r31_way (s1 : Switch) (e2 : Env) (h3 : (Vector Wide 24)) (r : ((List Out) × (List Place))) (h : F_r31_way s1 e2 h3 = some r) : PCon Tryz.prog 87 [rd kSwitch s1, rd kEnv e2, rd (karr 24 kWide) h3] (tup2 (rd (ksl kOut) r.1) (rd (ksl kPlace) r.2)) := by
  refine PCon.of (Con.intro0 Tryz.func87 rfl Tryz.ntmps87 rfl fun w H => ?_)
  unfold F_r31_way at h
  refine SR <| Ct rfl (op_box 4 rfl rfl (vt rfl)) ?_
  rintro _ ⟨g4, rfl⟩
  refine Ct rfl (op_box 5 rfl rfl (vt rfl)) ?_
  rintro _ ⟨g5, rfl⟩
  refine Ct rfl (op_box 6 rfl rfl (vt rfl)) ?_
  rintro _ ⟨g6, rfl⟩
  refine Ac (op_assign (A := rd (ksl kOut) []) rfl rfl vnil) rfl <| Ac (op_assign (A := rd (ksl kPlace) []) rfl rfl vnil) rfl <| Nl <| SR <| Ct rfl (op_buildSlice 1001 (ps := []) (l := []) rfl rfl sl46 zr71 rfl rfl rfl rfl) ?_
  rintro _ ⟨v7, rfl⟩
  refine Ct rfl (op_buildSlice 1002 (ps := []) (l := []) rfl rfl sl49 zr51 rfl rfl rfl rfl) ?_
  rintro _ ⟨v8, rfl⟩
  refine Aw rfl <| Aw rfl <| Nl <| SR <| Ac (op_buildSliceR (ps := []) (l := []) rfl rfl sl122 zr121 rfl rfl rfl rfl) rfl <| As rfl <| Nl <| SR <| Ak rfl <| Nl <| AW.block <| AW.loopG (d := []) (ν := Nat × (Vector Wide 24) × (List Out) × (List Place) × (List Action) × Int × Value × Value) (fun n => True ∧ F_r31_way_l1 s1 e2 n.1 n.2.1 n.2.2.1 n.2.2.2.1 n.2.2.2.2.1 n.2.2.2.2.2.1 = some r) (fun n => n.1) (fun n => [(3, ptrL g4 (Lens.id kSwitch)), (4, ptrL g5 (Lens.id kEnv)), (5, ptrL g6 (Lens.id (karr 24 kWide))), (8, raw n.2.2.2.2.2.2.1), (9, raw n.2.2.2.2.2.2.2), (10, rd (ksl kAction) n.2.2.2.2.1), (11, rd (kint .i64) n.2.2.2.2.2.1)]) (fun n => [(4, Blk g4 26 kSwitch s1), (5, Blk g5 39 kEnv e2), (6, Blk g6 44 (karr 24 kWide) n.2.1), (1001, Row n.2.2.2.2.2.2.1 71 kOut n.2.2.1), (1002, Row n.2.2.2.2.2.2.2 51 kPlace n.2.2.2.1)]) (fuel0, h3, [], [], ([] : List Action), 0, v7, v8) ⟨trivial, h⟩ ⟨rfl, ⟨rfl, rfl, rfl, rfl, rfl, rfl, rfl, trivial⟩, ⟨rfl, rfl, rfl, rfl, rfl, trivial⟩⟩ ?_
  rintro ⟨m23, b16, l17, l19, set21, table22, v18, v20⟩ ⟨hsf1, h⟩
  change True at hsf1
  change F_r31_way_l1 s1 e2 m23 b16 l17 l19 set21 table22 = some r at h
  change AW _ _ _ ⟨slots [(3, ptrL g4 (Lens.id kSwitch)), (4, ptrL g5 (Lens.id kEnv)), (5, ptrL g6 (Lens.id (karr 24 kWide))), (8, raw v18), (9, raw v20), (10, rd (ksl kAction) set21), (11, rd (kint .i64) table22)], ress [(4, Blk g4 26 kSwitch s1), (5, Blk g5 39 kEnv e2), (6, Blk g6 44 (karr 24 kWide) b16), (1001, Row v18 71 kOut l17), (1002, Row v20 51 kPlace l19)], _⟩
  cases m23 with
  | zero => cases h
  | succ m23 =>
    unfold F_r31_way_l1 at h
    generalize hgo1 : F_r31_way_l1 s1 e2 m23 = go1 at h
    refine AW.block <| AW.seq ?_
    obtain ⟨j24, hj24, h⟩ := bsome h
    obtain ⟨x25, hx25, h⟩ := bsome h
    refine AW.regionAny [⟨[11], [33], [], []⟩, ⟨[3], [34], [], []⟩, ⟨[34, 33], [35], [], []⟩, ⟨[35], [36], [4], []⟩, ⟨[5], [37], [6], []⟩, ⟨[36, 37], [38], [], []⟩, ⟨[38], [32], [], []⟩, ⟨[32], [39], [], []⟩, ⟨[32], [40], [], []⟩, ⟨[39], [12], [], []⟩, ⟨[40], [13], [], []⟩] mixed (by kernel_rfl) <| SMd rfl <| SFd lSwitch_0 fl26_0 rfl <| Sc (lo [34, 33] [] rfl fun S hs hr => op_index' rfl rfl ar23 (vh hs 34 rfl rfl) (vh hs 33 rfl rfl) hj24) rfl <| SLd ty22 4 rfl <| SLd ty44 6 rfl <| SCl [36, 37] (c_r27_Find _ _ _ hx25) e150 rfl <| Sc (lo [38] [] rfl fun S hs hr => op_move (A := tup2 (rd (kint .i64) x25.1) (rd kbool x25.2)) rfl rfl (vh hs 38 rfl rfl)) rfl <| Sc (lo [32] [] rfl fun S hs hr => op_fst rfl rfl (vh hs 32 rfl rfl)) rfl <| Sc (lo [32] [] rfl fun S hs hr => op_snd rfl rfl (vh hs 32 rfl rfl)) rfl <| SAs rfl <| SAs rfl <| AW.seq <| SR <| Md rfl <| Ac (op_not rfl rfl (vt rfl)) rfl <| Nl <| Cn rfl (fun hc => ?_) (fun hc => ?_)
    · have h := cond_t hc h
      refine AW.seq ?_
      obtain ⟨l26, hl26, h⟩ := bsome h
      refine Rg <| Mw rfl <| Mw rfl <| Md rfl <| Ac (op_build (ps := [(0, .tmp 45), (1, .const (Value.int IntKind.i64 (-1)))]) (x := (⟨table22, (-1)⟩ : Place)) rfl rfl rfl (by kernel_rfl) zr51 ⟨_, _, lPlace_0, _, by kernel_rfl, (vt rfl), _, _, lPlace_1, _, by kernel_rfl, (vk rfl), rfl⟩) rfl <| Ac (op_buildSliceR (ps := [(0, .tmp 46)]) (l := [(⟨table22, (-1)⟩ : Place)]) rfl rfl sl49 zr51 rfl rfl ⟨_, _, Lens.idx 1 kPlace 0 (by decide), _, rfl, (vt rfl), rfl⟩ rfl) rfl <| Ct rfl (op_append' 1002 hl26 rfl rfl el49 (vt rfl) rfl (vt rfl)) ?_
      rintro _ ⟨v27, rfl⟩
      refine Aw rfl <| Aw rfl <| Nl <| AW.freezes [6, 8, 43] 1001 rfl ⟨rfl, rfl, rfl, trivial⟩ rfl <| AW.freezes [7, 48] 1002 rfl ⟨rfl, rfl, trivial⟩ rfl <| AW.ret ?_
      obtain rfl := si h
      exact ret2 Tryz.results87 rfl (out_tmp rfl) (out_tmp rfl)
    · have h := cond_f hc h
      refine AW.skip <| AW.seq ?_
      obtain ⟨l28, hl28, h⟩ := bsome h
      refine Rg <| Mw rfl <| Md rfl <| Md rfl <| Ac (op_build (ps := [(0, .tmp 50), (1, .tmp 51)]) (x := (⟨table22, x25.1⟩ : Place)) rfl rfl rfl (by kernel_rfl) zr51 ⟨_, _, lPlace_0, _, by kernel_rfl, (vt rfl), _, _, lPlace_1, _, by kernel_rfl, (vt rfl), rfl⟩) rfl <| Ac (op_buildSliceR (ps := [(0, .tmp 52)]) (l := [(⟨table22, x25.1⟩ : Place)]) rfl rfl sl49 zr51 rfl rfl ⟨_, _, Lens.idx 1 kPlace 0 (by decide), _, rfl, (vt rfl), rfl⟩ rfl) rfl <| Ct rfl (op_append' 1002 hl28 rfl rfl el49 (vt rfl) rfl (vt rfl)) ?_
      rintro _ ⟨v29, rfl⟩
      refine Aw rfl <| Nl <| AW.seq ?_
      obtain ⟨j30, hj30, h⟩ := bsome h
      obtain ⟨e31, he31, h⟩ := bsome h
      refine Rg <| Md rfl <| FdA lSwitch_0 fl26_0 rfl <| Ac (op_index' rfl rfl ar23 (vt rfl) (vt rfl) hj30) rfl <| Ld ty22 4 rfl <| Md rfl <| Ac (op_indexs' rfl rfl sl22 (vt rfl) (vt rfl) he31) rfl <| Fp lFlow_6 fl61_6 rfl <| Lp1 ty59 rfl <| As rfl <| Nl ?_
      refine AW.join (d := []) (ν := (Vector Wide 24) × (List Out) × Value) (fun n => F_r31_way_j2 e31 table22 s1 e2 l28 go1 set21 n.1 n.2.1 = some r) (fun n => [(3, ptrL g4 (Lens.id kSwitch)), (4, ptrL g5 (Lens.id kEnv)), (5, ptrL g6 (Lens.id (karr 24 kWide))), (8, raw n.2.2), (9, raw v29), (10, rd (ksl kAction) set21), (11, rd (kint .i64) table22), (14, rd (ksl kInst) e31.Insts)]) (fun n => [(4, Blk g4 26 kSwitch s1), (5, Blk g5 39 kEnv e2), (6, Blk g6 44 (karr 24 kWide) n.1), (1001, Row n.2.2 71 kOut n.2.1), (1002, Row v29 51 kPlace l28)]) ?hx2 ?hy2
      case hy2 =>
        rintro ⟨b32, l33, v34⟩ h
        unfold F_r31_way_j2 at h
        change AW _ _ _ ⟨slots [(3, ptrL g4 (Lens.id kSwitch)), (4, ptrL g5 (Lens.id kEnv)), (5, ptrL g6 (Lens.id (karr 24 kWide))), (8, raw v34), (9, raw v29), (10, rd (ksl kAction) set21), (11, rd (kint .i64) table22), (14, rd (ksl kInst) e31.Insts)], ress [(4, Blk g4 26 kSwitch s1), (5, Blk g5 39 kEnv e2), (6, Blk g6 44 (karr 24 kWide) b32), (1001, Row v34 71 kOut l33), (1002, Row v29 51 kPlace l28)], _⟩
        refine AW.join (d := []) (ν := (List Action)) (fun n => F_r31_way_j3 e31 b32 table22 s1 e2 l33 l28 go1 n = some r) (fun n => [(3, ptrL g4 (Lens.id kSwitch)), (4, ptrL g5 (Lens.id kEnv)), (5, ptrL g6 (Lens.id (karr 24 kWide))), (8, raw v34), (9, raw v29), (10, rd (ksl kAction) n), (11, rd (kint .i64) table22), (14, rd (ksl kInst) e31.Insts)]) (fun n => [(4, Blk g4 26 kSwitch s1), (5, Blk g5 39 kEnv e2), (6, Blk g6 44 (karr 24 kWide) b32), (1001, Row v34 71 kOut l33), (1002, Row v29 51 kPlace l28)]) ?hx3 ?hy3
        case hy3 =>
          intro set35 h
          unfold F_r31_way_j3 at h
          change AW _ _ _ ⟨slots [(3, ptrL g4 (Lens.id kSwitch)), (4, ptrL g5 (Lens.id kEnv)), (5, ptrL g6 (Lens.id (karr 24 kWide))), (8, raw v34), (9, raw v29), (10, rd (ksl kAction) set35), (11, rd (kint .i64) table22), (14, rd (ksl kInst) e31.Insts)], ress [(4, Blk g4 26 kSwitch s1), (5, Blk g5 39 kEnv e2), (6, Blk g6 44 (karr 24 kWide) b32), (1001, Row v34 71 kOut l33), (1002, Row v29 51 kPlace l28)], _⟩
          refine AW.join (d := []) (ν := (List Action)) (fun n => F_r31_way_j4 e31 b32 table22 s1 e2 l33 l28 go1 n = some r) (fun n => [(3, ptrL g4 (Lens.id kSwitch)), (4, ptrL g5 (Lens.id kEnv)), (5, ptrL g6 (Lens.id (karr 24 kWide))), (8, raw v34), (9, raw v29), (10, rd (ksl kAction) n), (11, rd (kint .i64) table22), (14, rd (ksl kInst) e31.Insts)]) (fun n => [(4, Blk g4 26 kSwitch s1), (5, Blk g5 39 kEnv e2), (6, Blk g6 44 (karr 24 kWide) b32), (1001, Row v34 71 kOut l33), (1002, Row v29 51 kPlace l28)]) ?hx4 ?hy4
          case hy4 =>
            intro set36 h
            unfold F_r31_way_j4 at h
            change AW _ _ _ ⟨slots [(3, ptrL g4 (Lens.id kSwitch)), (4, ptrL g5 (Lens.id kEnv)), (5, ptrL g6 (Lens.id (karr 24 kWide))), (8, raw v34), (9, raw v29), (10, rd (ksl kAction) set36), (11, rd (kint .i64) table22), (14, rd (ksl kInst) e31.Insts)], ress [(4, Blk g4 26 kSwitch s1), (5, Blk g5 39 kEnv e2), (6, Blk g6 44 (karr 24 kWide) b32), (1001, Row v34 71 kOut l33), (1002, Row v29 51 kPlace l28)], _⟩
            refine AW.join (d := []) (ν := (Vector Wide 24)) (fun n => F_r31_way_j5 e31 table22 set36 s1 e2 l33 l28 go1 n = some r) (fun n => [(3, ptrL g4 (Lens.id kSwitch)), (4, ptrL g5 (Lens.id kEnv)), (5, ptrL g6 (Lens.id (karr 24 kWide))), (8, raw v34), (9, raw v29), (10, rd (ksl kAction) set36), (11, rd (kint .i64) table22), (14, rd (ksl kInst) e31.Insts)]) (fun n => [(4, Blk g4 26 kSwitch s1), (5, Blk g5 39 kEnv e2), (6, Blk g6 44 (karr 24 kWide) n), (1001, Row v34 71 kOut l33), (1002, Row v29 51 kPlace l28)]) ?hx5 ?hy5
            case hy5 =>
              intro b37 h
              unfold F_r31_way_j5 at h
              change AW _ _ _ ⟨slots [(3, ptrL g4 (Lens.id kSwitch)), (4, ptrL g5 (Lens.id kEnv)), (5, ptrL g6 (Lens.id (karr 24 kWide))), (8, raw v34), (9, raw v29), (10, rd (ksl kAction) set36), (11, rd (kint .i64) table22), (14, rd (ksl kInst) e31.Insts)], ress [(4, Blk g4 26 kSwitch s1), (5, Blk g5 39 kEnv e2), (6, Blk g6 44 (karr 24 kWide) b37), (1001, Row v34 71 kOut l33), (1002, Row v29 51 kPlace l28)], _⟩
              refine AW.seq ?_
              obtain ⟨x38, hx38, h⟩ := bsome h
              refine Rg <| Md rfl <| Ac (op_call (xs := [.tmp 114, .const (Value.int IntKind.i64 1)]) (c_r14_Of _ _ _ hx38) e151 rfl rfl ⟨vt rfl, vk rfl, trivial⟩) rfl <| Mt2 rfl <| Ac (op_fst rfl rfl (vt rfl)) rfl <| Ac (op_snd rfl rfl (vt rfl)) rfl <| Ct rfl (op_alloc 26 rfl rfl zr124) ?_
              rintro _ ⟨g39, rfl⟩
              refine Sto ty124 26 rfl <| As rfl <| Nl <| AW.seq <| SR <| Md rfl <| Ac (op_not rfl rfl (vt rfl)) rfl <| Md rfl <| Gd rfl (fun hq => op_field lInst_1 rfl rfl fl124_1 (vt rfl)) <| Gd rfl (fun hq => op_load rfl rfl ty3 (vgt rfl hq) (i := 26) rfl) <| Gd rfl (fun hq => op_move (A := rd (kint .i64) table22) rfl rfl (vt rfl)) <| Gd rfl (fun hq => op_leq rfl rfl (vgt rfl hq) (vgt rfl hq)) <| Ac (op_any rfl rfl (vt rfl) (vt rfl)) rfl <| Md rfl <| Gd rfl (fun hq => op_field lInst_1 rfl rfl fl124_1 (vt rfl)) <| Gd rfl (fun hq => op_load rfl rfl ty3 (vgt rfl hq) (i := 26) rfl) <| Gd rfl (fun hq => op_geq rfl rfl (vgt rfl hq) (vk rfl)) <| Ac (op_any rfl rfl (vt rfl) (vt rfl)) rfl <| Nl <| Cn rfl (fun hc => ?_) (fun hc => ?_)
              · have h := cond_t hc h
                refine AW.seq ?_
                obtain ⟨x40, hx40, h⟩ := bsome h
                obtain ⟨x41, hx41, h⟩ := bsome h
                refine AW.regionAny [⟨[3], [132], [], []⟩, ⟨[132], [133], [4], []⟩, ⟨[4], [134], [5], []⟩, ⟨[10], [135], [], []⟩, ⟨[135], [136], [], []⟩, ⟨[5], [137], [6], []⟩, ⟨[133, 134, 136, 137], [138], [], []⟩, ⟨[138], [131], [], []⟩, ⟨[131], [139], [], []⟩, ⟨[131], [140], [], []⟩, ⟨[], [28], [], []⟩, ⟨[139], [27], [], []⟩, ⟨[28, 140], [28], [], []⟩] mixed (by kernel_rfl) <| SFd lSwitch_1 fl26_1 rfl <| SLd ty24 4 rfl <| SLd ty39 5 rfl <| SMd rfl <| SCl [135] (c_r28_List _ _ hx40) e155 rfl <| SLd ty44 6 rfl <| SCl [133, 134, 136, 137] (c_r30_Do _ _ _ _ _ hx41) e152 rfl <| Sc (lo [138] [] rfl fun S hs hr => op_move (A := tup2 (rd (ksl kOut) x41.1) (rd (karr 24 kWide) x41.2)) rfl rfl (vh hs 138 rfl rfl)) rfl <| Sc (lo [131] [] rfl fun S hs hr => op_fst rfl rfl (vh hs 131 rfl rfl)) rfl <| Sc (lo [131] [] rfl fun S hs hr => op_snd rfl rfl (vh hs 131 rfl rfl)) rfl <| Sc (locs (us := [(28, ownP 44 (karr 24 kWide) (Vector.replicate 24 zWide))]) (ur := []) [] [] rfl fun S hs hr => op_allocO rfl rfl rfl zr44) rfl <| SAs rfl <| Sc (locs (us := [(28, ownP 44 (karr 24 kWide) x41.2)]) (ur := []) [28, 140] [] rfl fun S hs hr => op_storeO rfl rfl ty44 ((hs 28 rfl).trans rfl) (vh hs 140 rfl rfl)) rfl <| AW.unpackP 28 29 rfl rfl fun g42 => AW.seq ?_
                obtain ⟨l43, hl43, h⟩ := bsome h
                refine Rg <| Mw rfl <| Md rfl <| Ct rfl (op_append' 1001 hl43 rfl rfl el46 (vt rfl) rfl (vt rfl)) ?_
                rintro _ ⟨v44, rfl⟩
                refine Mw rfl <| Aw rfl <| Aw rfl <| Nl <| AW.freezes [6, 143] 1001 rfl ⟨rfl, rfl, trivial⟩ rfl <| AW.freezes [7, 9, 144] 1002 rfl ⟨rfl, rfl, rfl, trivial⟩ rfl <| AW.ret ?_
                obtain rfl := si h
                exact ret2 Tryz.results87 rfl (out_tmp rfl) (out_tmp rfl)
              · have h := cond_f hc h
                refine AW.skip <| Rg <| FdA lInst_1 fl124_1 rfl <| Ld ty3 26 rfl <| As rfl <| Nl ?_
                subst hgo1
                exact ⟨(m23, b37, l33, l28, set36, x38.1.Table, v34, v29), Nat.lt_succ_self _, ⟨trivial, h⟩, ⟨rfl, ⟨rfl, rfl, rfl, rfl, rfl, rfl, rfl, trivial⟩, ⟨rfl, rfl, rfl, rfl, rfl, trivial⟩⟩⟩
            case hx5 =>
              refine AW.seq ?_
              obtain ⟨x45, hx45, h⟩ := bsome h
              refine Rg <| Md rfl <| Ac (op_call (xs := [.tmp 100, .const (Value.int IntKind.i64 2)]) (c_r14_Of _ _ _ hx45) e151 rfl rfl ⟨vt rfl, vk rfl, trivial⟩) rfl <| Mt2 rfl <| Ac (op_fst rfl rfl (vt rfl)) rfl <| Ac (op_snd rfl rfl (vt rfl)) rfl <| Ct rfl (op_alloc 24 rfl rfl zr124) ?_
              rintro _ ⟨g46, rfl⟩
              refine Sto ty124 24 rfl <| As rfl <| Nl <| SR <| Md rfl <| Nl <| Cn rfl (fun hc => ?_) (fun hc => ?_)
              · have h := cond_t hc h
                obtain ⟨x47, hx47, h⟩ := bsome h
                obtain ⟨x48, hx48, h⟩ := bsome h
                obtain ⟨x49, hx49, h⟩ := bsome h
                refine AW.regionAny [⟨[], [105], [], []⟩, ⟨[23], [106], [], []⟩, ⟨[106], [107], [24], []⟩, ⟨[23], [108], [], []⟩, ⟨[108], [109], [24], []⟩, ⟨[105, 107, 109], [110], [], []⟩, ⟨[5], [111], [6], []⟩, ⟨[110, 111], [112], [], []⟩, ⟨[5, 112], [], [6], [6]⟩] mixed (by kernel_rfl) <| SCl [] (c_r09_None _ hx47) e80 rfl <| SFd lInst_2 fl124_2 rfl <| SLd ty42 24 rfl <| SFd lInst_3 fl124_3 rfl <| SLd ty42 24 rfl <| Sc (lo [105, 107, 109] [] rfl fun S hs hr => op_call (xs := [.tmp 105, .const (Value.int IntKind.i64 1), .tmp 107, .tmp 109]) (c_r09_Set _ _ _ _ _ hx48) e154 rfl rfl ⟨vt ((hs 105 rfl).trans rfl), vk rfl, vt ((hs 107 rfl).trans rfl), vt ((hs 109 rfl).trans rfl), trivial⟩) rfl <| SLd ty44 6 rfl <| SCl [110, 111] (c_r09_Apply _ _ _ hx49) e119 rfl <| SSt ty44 6 rfl ?_
                exact ⟨x49, h, ⟨rfl, ⟨rfl, rfl, rfl, rfl, rfl, rfl, rfl, rfl, trivial⟩, ⟨rfl, rfl, rfl, rfl, rfl, trivial⟩⟩⟩
              · have h := cond_f hc h
                refine AW.skip ?_
                exact ⟨b32, h, ⟨rfl, ⟨rfl, rfl, rfl, rfl, rfl, rfl, rfl, rfl, trivial⟩, ⟨rfl, rfl, rfl, rfl, rfl, trivial⟩⟩⟩
          case hx4 =>
            refine AW.seq ?_
            obtain ⟨x50, hx50, h⟩ := bsome h
            refine Rg <| Md rfl <| Ac (op_call (xs := [.tmp 90, .const (Value.int IntKind.i64 3)]) (c_r14_Of _ _ _ hx50) e151 rfl rfl ⟨vt rfl, vk rfl, trivial⟩) rfl <| Mt2 rfl <| Ac (op_fst rfl rfl (vt rfl)) rfl <| Ac (op_snd rfl rfl (vt rfl)) rfl <| Ct rfl (op_alloc 22 rfl rfl zr124) ?_
            rintro _ ⟨g51, rfl⟩
            refine Sto ty124 22 rfl <| As rfl <| Nl <| SR <| Md rfl <| Nl <| Cn rfl (fun hc => ?_) (fun hc => ?_)
            · have h := cond_t hc h
              obtain ⟨x52, hx52, h⟩ := bsome h
              refine Rg <| Md rfl <| FdA lInst_4 fl124_4 rfl <| Ld ty122 22 rfl <| Cl [95, 97] (c_r28_Write _ _ _ hx52) e153 rfl <| As rfl <| Nl ?_
              exact ⟨x52, h, ⟨rfl, ⟨rfl, rfl, rfl, rfl, rfl, rfl, rfl, rfl, trivial⟩, ⟨rfl, rfl, rfl, rfl, rfl, trivial⟩⟩⟩
            · have h := cond_f hc h
              refine AW.skip ?_
              exact ⟨set35, h, ⟨rfl, ⟨rfl, rfl, rfl, rfl, rfl, rfl, rfl, rfl, trivial⟩, ⟨rfl, rfl, rfl, rfl, rfl, trivial⟩⟩⟩
        case hx3 =>
          refine AW.seq ?_
          obtain ⟨x53, hx53, h⟩ := bsome h
          refine Rg <| Md rfl <| Ac (op_call (xs := [.tmp 84, .const (Value.int IntKind.i64 5)]) (c_r14_Of _ _ _ hx53) e151 rfl rfl ⟨vt rfl, vk rfl, trivial⟩) rfl <| Mt2 rfl <| Ac (op_fst rfl rfl (vt rfl)) rfl <| Ac (op_snd rfl rfl (vt rfl)) rfl <| Ct rfl (op_alloc 20 rfl rfl zr124) ?_
          rintro _ ⟨g54, rfl⟩
          refine Sto ty124 20 rfl <| As rfl <| Nl <| SR <| Md rfl <| Nl <| Cn rfl (fun hc => ?_) (fun hc => ?_)
          · have h := cond_t hc h
            refine Rg <| Ac (op_assign (A := rd (ksl kAction) []) rfl rfl vnil) rfl <| Nl ?_
            exact ⟨[], h, ⟨rfl, ⟨rfl, rfl, rfl, rfl, rfl, rfl, rfl, rfl, trivial⟩, ⟨rfl, rfl, rfl, rfl, rfl, trivial⟩⟩⟩
          · have h := cond_f hc h
            refine AW.skip ?_
            exact ⟨set21, h, ⟨rfl, ⟨rfl, rfl, rfl, rfl, rfl, rfl, rfl, rfl, trivial⟩, ⟨rfl, rfl, rfl, rfl, rfl, trivial⟩⟩⟩
      case hx2 =>
        refine AW.seq ?_
        obtain ⟨x55, hx55, h⟩ := bsome h
        refine Rg <| Md rfl <| Ac (op_call (xs := [.tmp 64, .const (Value.int IntKind.i64 4)]) (c_r14_Of _ _ _ hx55) e151 rfl rfl ⟨vt rfl, vk rfl, trivial⟩) rfl <| Mt2 rfl <| Ac (op_fst rfl rfl (vt rfl)) rfl <| Ac (op_snd rfl rfl (vt rfl)) rfl <| Ct rfl (op_alloc 16 rfl rfl zr124) ?_
        rintro _ ⟨g56, rfl⟩
        refine Sto ty124 16 rfl <| As rfl <| Nl <| SR <| Md rfl <| Nl <| Cn rfl (fun hc => ?_) (fun hc => ?_)
        · have h := cond_t hc h
          refine AW.seq ?_
          obtain ⟨x57, hx57, h⟩ := bsome h
          refine Rg <| FdA lSwitch_1 fl26_1 rfl <| Ld ty24 4 rfl <| Ld ty39 5 rfl <| FdA lInst_4 fl124_4 rfl <| Ld ty122 16 rfl <| Ld ty44 6 rfl <| Cl [71, 72, 74, 75] (c_r30_Do _ _ _ _ _ hx57) e152 rfl <| Mt2 rfl <| Ac (op_fst rfl rfl (vt rfl)) rfl <| Ac (op_snd rfl rfl (vt rfl)) rfl <| Ct rfl (op_alloc 19 rfl rfl zr44) ?_
          rintro _ ⟨g58, rfl⟩
          refine As rfl <| Sto ty44 19 rfl <| Nl ?_
          obtain ⟨l59, hl59, h⟩ := bsome h
          refine AW.endT <| AW.regionAny [⟨[8], [79], [], []⟩, ⟨[17], [80], [], []⟩, ⟨[79, 80], [81], [1001], [1001]⟩, ⟨[18], [82], [19], []⟩, ⟨[81], [81, 8], [1003], []⟩, ⟨[5, 82], [], [6], [6]⟩] mixed (by kernel_rfl) <| SMw rfl <| SMd rfl <| Sc (locs (us := [(81, ownR 71 kOut l59)]) (ur := [(1001, emp)]) [79, 80] [1001] rfl fun S hs hr => op_appendO 1001 hl59 rfl rfl rfl el46 (vh hs 79 rfl rfl) ((hr 1001 rfl).trans rfl) (vh hs 80 rfl rfl)) rfl <| SLd ty44 19 rfl <| Sc (locs (us := [(81, top), (8, ownR 71 kOut l59)]) (ur := []) [81] [1003] rfl fun S hs hr => op_assignO 1003 rfl rfl rfl rfl ((hs 81 rfl).trans rfl) ((hr 1003 rfl).trans rfl)) rfl <| SSt ty44 6 rfl <| EndT.unpackR 8 1001 rfl rfl fun v60 => EndT.done ?_
          exact ⟨(x57.2, l59, v60), h, ⟨rfl, ⟨rfl, rfl, rfl, rfl, rfl, rfl, rfl, rfl, trivial⟩, ⟨rfl, rfl, rfl, rfl, rfl, trivial⟩⟩⟩
        · have h := cond_f hc h
          refine AW.skip ?_
          exact ⟨(b16, l17, v18), h, ⟨rfl, ⟨rfl, rfl, rfl, rfl, rfl, rfl, rfl, rfl, trivial⟩, ⟨rfl, rfl, rfl, rfl, rfl, trivial⟩⟩⟩
def F_r31_Out (s1 : Switch) (e2 : Env) (h3 : (Vector Wide 24)) : Option (List Out) :=
  (F_r31_way s1 e2 h3).bind fun x7 => some x7.1
theorem c_r31_Out (s1 : Switch) (e2 : Env) (h3 : (Vector Wide 24)) (r : (List Out)) (h : F_r31_Out s1 e2 h3 = some r) : PCon Tryz.prog 30 [rd kSwitch s1, rd kEnv e2, rd (karr 24 kWide) h3] (rd (ksl kOut) r) := by
  refine PCon.of (Con.intro0 Tryz.func30 rfl Tryz.ntmps30 rfl fun w H => ?_)
  unfold F_r31_Out at h
  refine SR <| Ct rfl (op_box 4 rfl rfl (vt rfl)) ?_
  rintro _ ⟨g4, rfl⟩
  refine Ct rfl (op_box 5 rfl rfl (vt rfl)) ?_
  rintro _ ⟨g5, rfl⟩
  refine Ct rfl (op_box 6 rfl rfl (vt rfl)) ?_
  rintro _ ⟨g6, rfl⟩
  refine Ac (op_assign (A := rd (ksl kOut) []) rfl rfl vnil) rfl <| Nl <| AW.seq ?_
  obtain ⟨x7, hx7, h⟩ := bsome h
  refine Rg <| Ld ty26 4 rfl <| Ld ty39 5 rfl <| Ld ty44 6 rfl <| Cl [10, 11, 12] (c_r31_way _ _ _ _ hx7) e87 rfl <| Mt2 rfl <| Ac (op_fst rfl rfl (vt rfl)) rfl <| Ac (op_snd rfl rfl (vt rfl)) rfl <| As rfl <| As rfl <| Nl <| SR <| Md rfl <| As rfl <| Nl <| AW.ret ?_
  obtain rfl := si h
  exact ret1 Tryz.results30 rfl (out_tmp rfl)
def F_r30_Same_l1 (a1 : (List Out)) (b2 : (List Out)) : Nat → Int → Option Bool
  | 0, _ => none
  | m5 + 1, i4 => (bif (decide (i4 < (a1.length : Int))) then (lget a1 i4).bind fun e6 => (lget b2 i4).bind fun e7 => (opt (!(decide (e6.Port ≠ e7.Port))) (lget a1 i4)).bind fun e8 => (opt (!(decide (e6.Port ≠ e7.Port))) (lget b2 i4)).bind fun e9 => (opt (!((decide (e6.Port ≠ e7.Port)) || (decide (e8.Max ≠ e9.Max)))) (lget a1 i4)).bind fun e10 => (opt (!((decide (e6.Port ≠ e7.Port)) || (decide (e8.Max ≠ e9.Max)))) (lget b2 i4)).bind fun e11 => (bif (((decide (e6.Port ≠ e7.Port)) || (decide (e8.Max ≠ e9.Max))) || (decide (e10.Header ≠ e11.Header))) then some false else (F_r30_Same_l1 a1 b2 m5) (IntKind.i64.wrap (i4 + 1))) else some true)
def F_r30_Same (a1 : (List Out)) (b2 : (List Out)) : Option Bool :=
  (bif (decide ((a1.length : Int) ≠ (b2.length : Int))) then some false else F_r30_Same_l1 a1 b2 ((((a1.length : Int) : Int) - 0).toNat + 1) 0)
theorem c_r30_Same (a1 : (List Out)) (b2 : (List Out)) (r : Bool) (h : F_r30_Same a1 b2 = some r) : PCon Tryz.prog 28 [rd (ksl kOut) a1, rd (ksl kOut) b2] (rd kbool r) := by
  refine PCon.of (Con.intro0 Tryz.func28 rfl Tryz.ntmps28 rfl fun w H => ?_)
  unfold F_r30_Same at h
  refine SR <| Ab rfl <| Nl <| AW.seq <| SR <| Md rfl <| Ac (op_len' rfl rfl sl46 (vt rfl)) rfl <| Md rfl <| Ac (op_len' rfl rfl sl46 (vt rfl)) rfl <| Ac (op_neq rfl rfl (vt rfl) (vt rfl)) rfl <| Nl <| Cn rfl (fun hc => ?_) (fun hc => ?_)
  · have h := cond_t hc h
    refine SR <| Ab rfl <| Nl <| AW.ret ?_
    obtain rfl := si h
    exact ret1 Tryz.results28 rfl (out_tmp rfl)
  · have h := cond_f hc h
    refine AW.skip <| AW.seq <| SR <| Ak rfl <| Nl <| AW.block <| AW.loopG (d := []) (ν := Nat × Int) (fun n => True ∧ F_r30_Same_l1 a1 b2 n.1 n.2 = some r) (fun n => n.1) (fun n => [(0, rd (ksl kOut) a1), (1, rd (ksl kOut) b2), (5, rd (kint .i64) n.2)]) (fun n => []) (((((a1.length : Int) : Int) - 0).toNat + 1), 0) ⟨trivial, h⟩ ⟨rfl, ⟨rfl, rfl, rfl, trivial⟩, trivial⟩ ?_
    rintro ⟨m5, i4⟩ ⟨hsf1, h⟩
    change True at hsf1
    change F_r30_Same_l1 a1 b2 m5 i4 = some r at h
    change AW _ _ _ ⟨slots [(0, rd (ksl kOut) a1), (1, rd (ksl kOut) b2), (5, rd (kint .i64) i4)], ress [], _⟩
    cases m5 with
    | zero => cases h
    | succ m5 =>
      unfold F_r30_Same_l1 at h
      generalize hgo1 : F_r30_Same_l1 a1 b2 m5 = go1 at h
      refine AW.seq <| SR <| Md rfl <| Md rfl <| Ac (op_len' rfl rfl sl46 (vt rfl)) rfl <| Ac (op_lss rfl rfl (vt rfl) (vt rfl)) rfl <| Nl <| Cn rfl (fun hc => ?_) (fun hc => ?_)
      · have h := cond_t hc h
        refine AW.skip <| AW.seq <| AW.block <| AW.seq ?_
        obtain ⟨e6, he6, h⟩ := bsome h
        obtain ⟨e7, he7, h⟩ := bsome h
        obtain ⟨e8, he8, h⟩ := bsome h
        obtain ⟨e9, he9, h⟩ := bsome h
        obtain ⟨e10, he10, h⟩ := bsome h
        obtain ⟨e11, he11, h⟩ := bsome h
        refine AW.regionAny [⟨[0], [17], [], []⟩, ⟨[5], [18], [], []⟩, ⟨[17, 18], [19], [], []⟩, ⟨[19], [20], [], []⟩, ⟨[20], [21], [], []⟩, ⟨[1], [22], [], []⟩, ⟨[5], [23], [], []⟩, ⟨[22, 23], [24], [], []⟩, ⟨[24], [25], [], []⟩, ⟨[25], [26], [], []⟩, ⟨[21, 26], [27], [], []⟩, ⟨[27], [28], [], []⟩, ⟨[0, 28], [29], [], []⟩, ⟨[5, 28], [30], [], []⟩, ⟨[29, 30, 28], [31], [], []⟩, ⟨[31, 28], [32], [], []⟩, ⟨[32, 28], [33], [], []⟩, ⟨[1, 28], [34], [], []⟩, ⟨[5, 28], [35], [], []⟩, ⟨[34, 35, 28], [36], [], []⟩, ⟨[36, 28], [37], [], []⟩, ⟨[37, 28], [38], [], []⟩, ⟨[33, 38, 28], [39], [], []⟩, ⟨[39, 28], [40], [], []⟩, ⟨[40], [41], [], []⟩, ⟨[0, 41], [42], [], []⟩, ⟨[5, 41], [43], [], []⟩, ⟨[42, 43, 41], [44], [], []⟩, ⟨[44, 41], [45], [], []⟩, ⟨[45, 41], [46], [], []⟩, ⟨[1, 41], [47], [], []⟩, ⟨[5, 41], [48], [], []⟩, ⟨[47, 48, 41], [49], [], []⟩, ⟨[49, 41], [50], [], []⟩, ⟨[50, 41], [51], [], []⟩, ⟨[46, 51, 41], [52], [], []⟩, ⟨[52, 41], [53], [], []⟩] mixed (by kernel_rfl) <| SMd rfl <| SMd rfl <| Sc (lo [17, 18] [] rfl fun S hs hr => op_indexs' rfl rfl sl46 (vh hs 17 rfl rfl) (vh hs 18 rfl rfl) he6) rfl <| SFp lOut_0 fl71_0 rfl <| SLp ty3 rfl <| SMd rfl <| SMd rfl <| Sc (lo [22, 23] [] rfl fun S hs hr => op_indexs' rfl rfl sl46 (vh hs 22 rfl rfl) (vh hs 23 rfl rfl) he7) rfl <| SFp lOut_0 fl71_0 rfl <| SLp ty3 rfl <| Sc (lo [21, 26] [] rfl fun S hs hr => op_neq rfl rfl (vh hs 21 rfl rfl) (vh hs 26 rfl rfl)) rfl <| SMd rfl <| Sc (lg [0, 28] [] rfl fun hq S hs hr => op_move (A := rd (ksl kOut) a1) rfl rfl (vh hs 0 rfl rfl)) rfl <| Sc (lg [5, 28] [] rfl fun hq S hs hr => op_move (A := rd (kint .i64) i4) rfl rfl (vh hs 5 rfl rfl)) rfl <| Sc (lg [29, 30, 28] [] rfl fun hq S hs hr => op_indexs' rfl rfl sl46 (vgt ((hs 29 rfl).trans rfl) hq) (vgt ((hs 30 rfl).trans rfl) hq) (opt_f he8 hq)) rfl <| Sc (lg [31, 28] [] rfl fun hq S hs hr => op_fieldp lOut_1 rfl rfl fl71_1 (vgt ((hs 31 rfl).trans rfl) hq)) rfl <| Sc (lg [32, 28] [] rfl fun hq S hs hr => op_loadp rfl rfl ty3 (vgt ((hs 32 rfl).trans rfl) hq)) rfl <| Sc (lg [1, 28] [] rfl fun hq S hs hr => op_move (A := rd (ksl kOut) b2) rfl rfl (vh hs 1 rfl rfl)) rfl <| Sc (lg [5, 28] [] rfl fun hq S hs hr => op_move (A := rd (kint .i64) i4) rfl rfl (vh hs 5 rfl rfl)) rfl <| Sc (lg [34, 35, 28] [] rfl fun hq S hs hr => op_indexs' rfl rfl sl46 (vgt ((hs 34 rfl).trans rfl) hq) (vgt ((hs 35 rfl).trans rfl) hq) (opt_f he9 hq)) rfl <| Sc (lg [36, 28] [] rfl fun hq S hs hr => op_fieldp lOut_1 rfl rfl fl71_1 (vgt ((hs 36 rfl).trans rfl) hq)) rfl <| Sc (lg [37, 28] [] rfl fun hq S hs hr => op_loadp rfl rfl ty3 (vgt ((hs 37 rfl).trans rfl) hq)) rfl <| Sc (lg [33, 38, 28] [] rfl fun hq S hs hr => op_neq rfl rfl (vgt ((hs 33 rfl).trans rfl) hq) (vgt ((hs 38 rfl).trans rfl) hq)) rfl <| Sc (lo [39, 28] [] rfl fun S hs hr => op_any rfl rfl (vh hs 28 rfl rfl) (vh hs 39 rfl rfl)) rfl <| SMd rfl <| Sc (lg [0, 41] [] rfl fun hq S hs hr => op_move (A := rd (ksl kOut) a1) rfl rfl (vh hs 0 rfl rfl)) rfl <| Sc (lg [5, 41] [] rfl fun hq S hs hr => op_move (A := rd (kint .i64) i4) rfl rfl (vh hs 5 rfl rfl)) rfl ?_
        refine Sc (lg [42, 43, 41] [] rfl fun hq S hs hr => op_indexs' rfl rfl sl46 (vgt ((hs 42 rfl).trans rfl) hq) (vgt ((hs 43 rfl).trans rfl) hq) (opt_f he10 hq)) rfl <| Sc (lg [44, 41] [] rfl fun hq S hs hr => op_fieldp lOut_2 rfl rfl fl71_2 (vgt ((hs 44 rfl).trans rfl) hq)) rfl <| Sc (lg [45, 41] [] rfl fun hq S hs hr => op_loadp rfl rfl ty44 (vgt ((hs 45 rfl).trans rfl) hq)) rfl <| Sc (lg [1, 41] [] rfl fun hq S hs hr => op_move (A := rd (ksl kOut) b2) rfl rfl (vh hs 1 rfl rfl)) rfl <| Sc (lg [5, 41] [] rfl fun hq S hs hr => op_move (A := rd (kint .i64) i4) rfl rfl (vh hs 5 rfl rfl)) rfl <| Sc (lg [47, 48, 41] [] rfl fun hq S hs hr => op_indexs' rfl rfl sl46 (vgt ((hs 47 rfl).trans rfl) hq) (vgt ((hs 48 rfl).trans rfl) hq) (opt_f he11 hq)) rfl <| Sc (lg [49, 41] [] rfl fun hq S hs hr => op_fieldp lOut_2 rfl rfl fl71_2 (vgt ((hs 49 rfl).trans rfl) hq)) rfl <| Sc (lg [50, 41] [] rfl fun hq S hs hr => op_loadp rfl rfl ty44 (vgt ((hs 50 rfl).trans rfl) hq)) rfl <| Sc (lg [46, 51, 41] [] rfl fun hq S hs hr => op_neqk rfl rfl eqk44 (by decide) rfl eg44 (vgt ((hs 46 rfl).trans rfl) hq) (vgt ((hs 51 rfl).trans rfl) hq)) rfl <| Sc (lo [52, 41] [] rfl fun S hs hr => op_any rfl rfl (vh hs 41 rfl rfl) (vh hs 52 rfl rfl)) rfl <| Cn rfl (fun hc => ?_) (fun hc => ?_)
        · have h := cond_t hc h
          refine SR <| Ab rfl <| Nl <| AW.ret ?_
          obtain rfl := si h
          exact ret1 Tryz.results28 rfl (out_tmp rfl)
        · have h := cond_f hc h
          refine AW.skip <| Rg <| Md rfl <| Ac (op_add rfl rfl (vt rfl) (vk rfl)) rfl <| As rfl <| Nl ?_
          subst hgo1
          exact ⟨(m5, (IntKind.i64.wrap (i4 + 1))), Nat.lt_succ_self _, ⟨trivial, h⟩, ⟨rfl, ⟨rfl, rfl, rfl, trivial⟩, trivial⟩⟩
      · have h := cond_f hc h
        refine AW.exit <| SR <| Ab rfl <| Nl <| AW.ret ?_
        obtain rfl := si h
        exact ret1 Tryz.results28 rfl (out_tmp rfl)
def F_r31_Path (s1 : Switch) (h2 : (Vector Wide 24)) : Option (List Place) :=
  (F_r31_way s1 (⟨0, []⟩ : Env) h2).bind fun x5 => some x5.2
theorem c_r31_Path (s1 : Switch) (h2 : (Vector Wide 24)) (r : (List Place)) (h : F_r31_Path s1 h2 = some r) : PCon Tryz.prog 33 [rd kSwitch s1, rd (karr 24 kWide) h2] (rd (ksl kPlace) r) := by
  refine PCon.of (Con.intro0 Tryz.func33 rfl Tryz.ntmps33 rfl fun w H => ?_)
  unfold F_r31_Path at h
  refine SR <| Ct rfl (op_box 3 rfl rfl (vt rfl)) ?_
  rintro _ ⟨g3, rfl⟩
  refine Ct rfl (op_box 4 rfl rfl (vt rfl)) ?_
  rintro _ ⟨g4, rfl⟩
  refine Ac (op_assign (A := rd (ksl kPlace) []) rfl rfl vnil) rfl <| Nl <| AW.seq ?_
  obtain ⟨x5, hx5, h⟩ := bsome h
  refine Rg <| Ld ty26 3 rfl <| Ac (op_build (ps := []) (x := (⟨0, []⟩ : Env)) rfl rfl rfl (by kernel_rfl) zr39 rfl) rfl <| Ld ty44 4 rfl <| Cl [8, 9, 10] (c_r31_way _ _ _ _ hx5) e87 rfl <| Mt2 rfl <| Ac (op_fst rfl rfl (vt rfl)) rfl <| Ac (op_snd rfl rfl (vt rfl)) rfl <| As rfl <| As rfl <| Nl <| SR <| Md rfl <| As rfl <| Nl <| AW.ret ?_
  obtain rfl := si h
  exact ret1 Tryz.results33 rfl (out_tmp rfl)
def F_l31_SemTells (s1 : Switch) (e2 : Env) (h3 : (Vector Wide 24)) : Option Bool :=
  (F_pl_Switch s1 8).bind fun x7 => (bif ((!x7) || (decide ((e2.Down.length : Int) > 20))) then (F_l31_awake).bind fun x8 => some x8 else (F_sem_Out s1 e2 h3).bind fun x9 => (F_r31_Out s1 e2 h3).bind fun x10 => (F_r30_Same x9 x10).bind fun x11 => (opt x11 (F_sem_Path s1 h3)).bind fun x12 => (opt x11 (F_r31_Path s1 h3)).bind fun x13 => (opt x11 (F_slices_Equal_Place x12 x13)).bind fun x14 => (opt (x11 && x14) (F_l31_awake)).bind fun x15 => some ((x11 && x14) && x15))
theorem c_l31_SemTells (s1 : Switch) (e2 : Env) (h3 : (Vector Wide 24)) (r : Bool) (h : F_l31_SemTells s1 e2 h3 = some r) : PCon Tryz.prog 4 [rd kSwitch s1, rd kEnv e2, rd (karr 24 kWide) h3] (rd kbool r) := by
  refine PCon.of (Con.intro0 Tryz.func4 rfl Tryz.ntmps4 rfl fun w H => ?_)
  unfold F_l31_SemTells at h
  refine SR <| Ct rfl (op_box 4 rfl rfl (vt rfl)) ?_
  rintro _ ⟨g4, rfl⟩
  refine Ct rfl (op_box 5 rfl rfl (vt rfl)) ?_
  rintro _ ⟨g5, rfl⟩
  refine Ct rfl (op_box 6 rfl rfl (vt rfl)) ?_
  rintro _ ⟨g6, rfl⟩
  refine Ab rfl <| Nl <| AW.seq <| AW.seq ?_
  obtain ⟨x7, hx7, h⟩ := bsome h
  refine Rg <| Ld ty26 4 rfl <| Ac (op_call (xs := [.tmp 7, .const (Value.int IntKind.i64 8)]) (c_pl_Switch _ _ _ hx7) e21 rfl rfl ⟨vt rfl, vk rfl, trivial⟩) rfl <| Ac (op_not rfl rfl (vt rfl)) rfl <| Md rfl <| Gd rfl (fun hq => op_field lEnv_1 rfl rfl fl39_1 (vt rfl)) <| Gd rfl (fun hq => op_load rfl rfl ty37 (vgt rfl hq) (i := 5) rfl) <| Gd rfl (fun hq => op_len' rfl rfl sl37 (vgt rfl hq)) <| Gd rfl (fun hq => op_gtr rfl rfl (vgt rfl hq) (vk rfl)) <| Ac (op_any rfl rfl (vt rfl) (vt rfl)) rfl <| Nl <| Cn rfl (fun hc => ?_) (fun hc => ?_)
  · have h := cond_t hc h
    refine AW.seq ?_
    obtain ⟨x8, hx8, h⟩ := bsome h
    refine Rg <| Cl [] (c_l31_awake _ hx8) e27 rfl <| As rfl <| Nl <| AW.ret ?_
    obtain rfl := si h
    exact ret1 Tryz.results4 rfl (out_tmp rfl)
  · have h := cond_f hc h
    refine AW.skip <| AW.seq ?_
    obtain ⟨x9, hx9, h⟩ := bsome h
    obtain ⟨x10, hx10, h⟩ := bsome h
    obtain ⟨x11, hx11, h⟩ := bsome h
    obtain ⟨x12, hx12, h⟩ := bsome h
    obtain ⟨x13, hx13, h⟩ := bsome h
    obtain ⟨x14, hx14, h⟩ := bsome h
    obtain ⟨x15, hx15, h⟩ := bsome h
    refine AW.regionAny [⟨[3], [17], [4], []⟩, ⟨[4], [18], [5], []⟩, ⟨[5], [19], [6], []⟩, ⟨[17, 18, 19], [20], [], []⟩, ⟨[3], [21], [4], []⟩, ⟨[4], [22], [5], []⟩, ⟨[5], [23], [6], []⟩, ⟨[21, 22, 23], [24], [], []⟩, ⟨[20, 24], [25], [], []⟩, ⟨[25], [26], [], []⟩, ⟨[3, 26], [27], [4], []⟩, ⟨[5, 26], [28], [6], []⟩, ⟨[27, 28, 26], [29], [], []⟩, ⟨[3, 26], [30], [4], []⟩, ⟨[5, 26], [31], [6], []⟩, ⟨[30, 31, 26], [32], [], []⟩, ⟨[29, 32, 26], [33], [], []⟩, ⟨[33, 26], [34], [], []⟩, ⟨[34], [35], [], []⟩, ⟨[35], [36], [], []⟩, ⟨[36, 35], [37], [], []⟩, ⟨[37], [6], [], []⟩] mixed (by kernel_rfl) <| SLd ty26 4 rfl <| SLd ty39 5 rfl <| SLd ty44 6 rfl <| SCl [17, 18, 19] (c_sem_Out _ _ _ _ hx9) e29 rfl <| SLd ty26 4 rfl <| SLd ty39 5 rfl <| SLd ty44 6 rfl <| SCl [21, 22, 23] (c_r31_Out _ _ _ _ hx10) e30 rfl <| SCl [20, 24] (c_r30_Same _ _ _ hx11) e28 rfl <| SMd rfl <| Sc (lg [3, 26] [4] rfl fun hq S hs hr => op_load rfl rfl ty26 (vh hs 3 rfl rfl) (i := 4) ((hr 4 rfl).trans rfl)) rfl <| Sc (lg [5, 26] [6] rfl fun hq S hs hr => op_load rfl rfl ty44 (vh hs 5 rfl rfl) (i := 6) ((hr 6 rfl).trans rfl)) rfl <| Sc (lg [27, 28, 26] [] rfl fun hq S hs hr => op_call (xs := [.tmp 27, .tmp 28]) (c_sem_Path _ _ _ (opt_t hx12 hq)) e32 rfl rfl ⟨vgt ((hs 27 rfl).trans rfl) hq, vgt ((hs 28 rfl).trans rfl) hq, trivial⟩) rfl <| Sc (lg [3, 26] [4] rfl fun hq S hs hr => op_load rfl rfl ty26 (vh hs 3 rfl rfl) (i := 4) ((hr 4 rfl).trans rfl)) rfl <| Sc (lg [5, 26] [6] rfl fun hq S hs hr => op_load rfl rfl ty44 (vh hs 5 rfl rfl) (i := 6) ((hr 6 rfl).trans rfl)) rfl <| Sc (lg [30, 31, 26] [] rfl fun hq S hs hr => op_call (xs := [.tmp 30, .tmp 31]) (c_r31_Path _ _ _ (opt_t hx13 hq)) e33 rfl rfl ⟨vgt ((hs 30 rfl).trans rfl) hq, vgt ((hs 31 rfl).trans rfl) hq, trivial⟩) rfl <| Sc (lg [29, 32, 26] [] rfl fun hq S hs hr => op_call (xs := [.tmp 29, .tmp 32]) (c_slices_Equal_Place _ _ _ (opt_t hx14 hq)) e31 rfl rfl ⟨vgt ((hs 29 rfl).trans rfl) hq, vgt ((hs 32 rfl).trans rfl) hq, trivial⟩) rfl <| Sc (lo [33, 26] [] rfl fun S hs hr => op_all rfl rfl (vh hs 26 rfl rfl) (vh hs 33 rfl rfl)) rfl <| SMd rfl <| Sc (lg [35] [] rfl fun hq S hs hr => op_call (xs := []) (c_l31_awake _ (opt_t hx15 hq)) e27 rfl rfl trivial) rfl <| Sc (lo [36, 35] [] rfl fun S hs hr => op_all rfl rfl (vh hs 35 rfl rfl) (vh hs 36 rfl rfl)) rfl <| SAs rfl <| AW.ret ?_
    obtain rfl := si h
    exact ret1 Tryz.results4 rfl (out_tmp rfl)
end Go.Proofs.YtknpgojdkobgjaaGreat.W
set_option linter.unusedVariables false
set_option maxRecDepth 4000
set_option linter.unusedSimpArgs false
namespace Go.Proofs.YtknpgojdkobgjaaGreat.W
open Go Go.Wb
end Go.Proofs.YtknpgojdkobgjaaGreat.W
set_option linter.unusedVariables false
set_option maxRecDepth 4000
set_option linter.unusedSimpArgs false
namespace Go.Proofs.YtknpgojdkobgjaaGreat.W
open Go Go.Wb
end Go.Proofs.YtknpgojdkobgjaaGreat.W
set_option linter.unusedVariables false
set_option maxRecDepth 4000
set_option linter.unusedSimpArgs false
namespace Go.Proofs.YtknpgojdkobgjaaGreat.W
open Go Go.Wb
theorem e22 : Ent Tryz.prog 22 := Ent.mk Tryz.func22 rfl rfl
theorem e25 : Ent Tryz.prog 25 := Ent.mk Tryz.func25 rfl rfl
end Go.Proofs.YtknpgojdkobgjaaGreat.W
set_option linter.unusedVariables false
set_option maxRecDepth 4000
set_option linter.unusedSimpArgs false
namespace Go.Proofs.YtknpgojdkobgjaaGreat.W
open Go Go.Wb
theorem e20 : Ent Tryz.prog 20 := Ent.mk Tryz.func20 rfl rfl
end Go.Proofs.YtknpgojdkobgjaaGreat.W
