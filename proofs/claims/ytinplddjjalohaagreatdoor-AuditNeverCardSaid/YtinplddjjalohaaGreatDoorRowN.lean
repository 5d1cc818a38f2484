/- Whatever the arguments: AuditNever returns true and leaves its arguments as they were, the variable errors.errorType being what the program's text makes it. No other condition. -/
import Derived.Test.YtinplddjjalohaaGreatDoorRowNF
import Derived.Test.YtinplddjjalohaaGreatDoorRows
import Derived.Test.YtinplddjjalohaaGreatDoorCards
import Derived.Test.YtinplddjjalohaaGreatDoorTie
import Derived.SevenTiedAt
import Derived.Handed
import Derived.LaidLaws
import Derived.LaidHandle
import Derived.ChangeVars
import Derived.Stop.Joined
import Derived.Test.YtinplddjjalohaaGreatDoorP1
set_option linter.unusedVariables false
set_option linter.unusedSimpArgs false
namespace Go.Proofs.YtinplddjjalohaaGreatDoor.W
open Go Go.Wb
open Go.Proofs.YtinplddjjalohaaGreatDoor
open Go.ChangeShapes Go.WideShapes Go.ChangeAt Go.RowKit
theorem Zts:Rdb Tryz.prog 27 Z04:=Yd7 (by kernel_rfl)
theorem rdb3:Rdb Tryz.prog 3 (Z0 .i64):=Y3a (by kernel_rfl)
theorem Yi7:Rdb Tryz.prog 4 Z6:=Yv9 (by kernel_rfl)
theorem Zli:Rdb Tryz.prog 29 Zn:=Zbn (fun y=>⟨y.1,y.2⟩) (by kernel_rfl) (by kernel_rfl) (fun _=>rfl) (Z3h Zts (by kernel_rfl) (Zcm Zts (by kernel_rfl)))
theorem Y6f:Rdb Tryz.prog 217 Z0k:=Zbn (fun y=>⟨y.1,y.2.1,y.2.2.1,y.2.2.2⟩) (by kernel_rfl) (by kernel_rfl) (fun _=>rfl) (Z3h rdb3 (by kernel_rfl) (Z3h Yi7 (by kernel_rfl) (Z3h Zli (by kernel_rfl) (Zcm Zli (by kernel_rfl)))))
theorem Yuh:Rdb Tryz.prog 45 (Z1 Z0k):=Zi1 (by kernel_rfl) (by kernel_rfl) rfl Y6f
theorem Ygj:Rdb Tryz.prog 219 Z9:=Zbn (fun y=>⟨y.1,y.2.1,y.2.2.1,y.2.2.2.1,y.2.2.2.2.1,y.2.2.2.2.2⟩) (by kernel_rfl) (by kernel_rfl) (fun _=>rfl) (Z3h rdb3 (by kernel_rfl) (Z3h rdb3 (by kernel_rfl) (Z3h rdb3 (by kernel_rfl) (Z3h rdb3 (by kernel_rfl) (Z3h rdb3 (by kernel_rfl) (Zcm Y6f (by kernel_rfl)))))))
theorem Y8l:Rdb Tryz.prog 77 (Z1 Z9):=Zi1 (by kernel_rfl) (by kernel_rfl) rfl Ygj
theorem Yub:Rdb Tryz.prog 140 Z0b:=Zbn (fun y=>⟨y.1,y.2.1,y.2.2.1,y.2.2.2.1,y.2.2.2.2⟩) (by kernel_rfl) (by kernel_rfl) (fun _=>rfl) (Z3h rdb3 (by kernel_rfl) (Z3h rdb3 (by kernel_rfl) (Z3h Zli (by kernel_rfl) (Z3h Zli (by kernel_rfl) (Zcm Y8l (by kernel_rfl))))))
theorem Ykt:Rdb Tryz.prog 46 (Z1 Z0b):=Zi1 (by kernel_rfl) (by kernel_rfl) rfl Yub
theorem Yyo:Rdb Tryz.prog 48 Z08:=Zbn (fun y=>⟨y.1,y.2.1,y.2.2.1,y.2.2.2.1,y.2.2.2.2.1,y.2.2.2.2.2.1,y.2.2.2.2.2.2⟩) (by kernel_rfl) (by kernel_rfl) (fun _=>rfl) (Z3h Zts (by kernel_rfl) (Z3h rdb3 (by kernel_rfl) (Z3h rdb3 (by kernel_rfl) (Z3h rdb3 (by kernel_rfl) (Z3h rdb3 (by kernel_rfl) (Z3h Yuh (by kernel_rfl) (Zcm Ykt (by kernel_rfl))))))))
theorem Ytq:Rdb Tryz.prog 22 (Z1 Z08):=Zi1 (by kernel_rfl) (by kernel_rfl) rfl Yyo
theorem Yh1:Rdb Tryz.prog 23 (Z3 4 (Z1 Z08)):=Yby (by kernel_rfl) (by kernel_rfl) (by kernel_rfl) Ytq
theorem Yfx:Rdb Tryz.prog 168 Z1y:=Zbn (fun y=>⟨y.1,y.2.1,y.2.2.1,y.2.2.2⟩) (by kernel_rfl) (by kernel_rfl) (fun _=>rfl) (Z3h rdb3 (by kernel_rfl) (Z3h rdb3 (by kernel_rfl) (Z3h rdb3 (by kernel_rfl) (Zcm Y8l (by kernel_rfl)))))
theorem Ymj:Rdb Tryz.prog 69 (Z1 Z1y):=Zi1 (by kernel_rfl) (by kernel_rfl) rfl Yfx
theorem Yp1:Rdb Tryz.prog 71 Z0e:=Zbn (fun y=>⟨y.1,y.2.1,y.2.2⟩) (by kernel_rfl) (by kernel_rfl) (fun _=>rfl) (Z3h rdb3 (by kernel_rfl) (Z3h rdb3 (by kernel_rfl) (Zcm Ymj (by kernel_rfl))))
theorem Yxo:Rdb Tryz.prog 24 (Z1 Z0e):=Zi1 (by kernel_rfl) (by kernel_rfl) rfl Yp1
theorem rdb26:Rdb Tryz.prog 26 Z09:=Zbn (fun y=>⟨y.1,y.2⟩) (by kernel_rfl) (by kernel_rfl) (fun _=>rfl) (Z3h Yh1 (by kernel_rfl) (Zcm Yxo (by kernel_rfl)))
theorem rdb31:Rdb Tryz.prog 31 (Z3 24 Zn):=Yby (by kernel_rfl) (by kernel_rfl) (by kernel_rfl) Zli
theorem Yrr:ownKnob Tryz.prog.godebug=none:=by kernel_rfl
theorem Yld:laidOutB Tryz.prog=true:=Yaj
theorem Ymr {W:World}(h:laidMetH Tryz.prog [("errors.errorType",Rows.laid_errors_errorType)] W):Amb Tryz.prog W Ze:=by
 have h':laidMet Tryz.prog [] W∧handlesMet Tryz.prog [("errors.errorType",Rows.laid_errors_errorType)] W:=h
 obtain ⟨name,u,ty,e1,e2,e3,e4,e5⟩:=h'.2 _ (List.mem_singleton.2 rfl)
 have en:name=[101,114,114,111,114]:=(Option.some.inj e1).symm
 subst en
 intro g hg
 have hc:W.cell? ⟨g,0,none⟩=some (.iface u (.agg #[typeHandle Tryz.prog ty])):=by simpa using World.var?_cell hg e5 0
 refine ⟨fun h=>h.elim,?_,u,ty,e2,e3,e4,hc⟩
 rcases Nat.lt_or_ge g W.heap.size with h | h
 ·exact h
 ·simp [World.cell?,Array.getElem?_eq_none h] at hc
noncomputable def Y14 (os:Os):World:=
 let w0:=World.holding Tryz.prog os ⟨#[],#[],[]⟩
 {w0 with heap:=w0.heap.modify 0 fun
   | .cells _ t frozen=> .cells #[.iface 230 (.agg #[.pointer (some ⟨1,88,none⟩)])] t frozen
   | o=>o}
theorem Yec (os:Os)(args:Array Value):laidMetH Tryz.prog [("errors.errorType",Rows.laid_errors_errorType)] ((Y14 os).forCall (fun _ _=>0) ⟨#[],args,[]⟩).memory:=
 laidMetH_of_parts (laidMet_nil _ _) (by kernel_rfl)
set_option maxRecDepth 100000 in
theorem Yhv (H:Type)(enc:TypeId×Value→H)(W:World)(base:Nat)(args:Array Value)(ds gs:List (DataW H))(before:List MemPlace)
  (hval:∀(j:Nat) t v,Tryz.f3.params[j]? =some t→args[j]? =some v→Value.okWide Tryz.prog W .any base t v)
  (hW:DataW.Whole enc Tryz.prog Tryz.f3.params.toList Rows.auditNeverSpec.vars false W args.toList ds gs before)(hL:Amb Tryz.prog W Ze):
  Calls Tryz.prog 3 args W fun e W'=> ∃v,e= .returned v∧Rows.auditNeverSpec.post enc Tryz.prog Tryz.f3 false true false false W args v W':=by
 have hW':=hW
 obtain ⟨p,q,hA0,hV,hps,hfz,hnd⟩:=hW
 have hA:DataW.TrodAll enc Tryz.prog W 0 (fun _=>true) true [26,3,31] args.toList ds p:=hA0
 obtain ⟨v0,vs0,d0,ds0,p0,q0,hargs,rfl,rfl,h0,r0⟩:=trodAll_cons hA
 obtain ⟨v1,vs1,d1,ds1,p1,q1,rfl,rfl,rfl,h1,r1⟩:=trodAll_cons r0
 obtain ⟨v2,vs2,d2,ds2,p2,q2,rfl,rfl,rfl,h2,r2⟩:=trodAll_cons r1
 obtain ⟨rfl,rfl,rfl⟩:=trodAll_nil r2
 obtain rfl:args= #[v0,v1,v2]:=by cases args;simp_all
 obtain ⟨rfl,rfl⟩:=trodVars_none hV
 rw [Tryz.params3] at hval
 obtain ⟨x0,hx0⟩:=rdb26.val Z28 (hval 0 26 v0 rfl rfl) h0
 obtain ⟨x1,hx1⟩:=rdb3.val Zo (hval 1 3 v1 rfl rfl) h1
 obtain ⟨x2,hx2⟩:=rdb31.val Z17 (hval 2 31 v2 rfl rfl) h2
 have hlaw:Zh3 x0 x1 x2=some true:=Ycr x0 x1 x2 hx1
 refine (Yob x0 x1 x2 true hlaw W Ze [v0,v1,v2] hL (fun _ h=>h.elim) ⟨hx0,hx1,hx2,trivial⟩).mono ?_
 rintro e W' ⟨v,rfl,hf,hB⟩
 have hv:v= .bool true:=Ze2 hB
 subst hv
 exact ⟨_,rfl,Yvy (tb:=4) Yld (by kernel_rfl) rfl (by kernel_rfl) (by kernel_rfl) hW' rfl hf⟩
set_option maxRecDepth 100000 in
theorem Yh0 (os:Os)(started:os.Started)(H:Type)(enc:TypeId×Value→H):
  ReturnsInHanded {} Tryz.checked os 3 .any (fun w args=>(Rows.auditNeverSpec.pre enc Tryz.prog Tryz.f3 [] false w args∧laidMetH Tryz.prog [("errors.errorType",Rows.laid_errors_errorType)] w)∧sizedMet enc Tryz.prog Tryz.f3 (OpenSpec.ofChange Rows.auditNeverSpec) false w args) (Rows.auditNeverSpec.post enc Tryz.prog Tryz.f3 false true false false):=by
 refine returnsInHanded_of_change_and (C:=Tryz.checked) (X:=fun w _=>laidMetH Tryz.prog [("errors.errorType",Rows.laid_errors_errorType)] w) (fun _ _ _ hh h=>h.of_heap hh) Yrr started (by kernel_rfl) Tryz.func3
  (ChangeSpec.witness_at (enc:=enc) (C:=Tryz.checked) (os:=os) (X:=fun w _=>laidMetH Tryz.prog [("errors.errorType",Rows.laid_errors_errorType)] w) false (Y14 os) #[.agg #[(Value.slice none 0 0),(Value.slice none 0 0),(Value.slice none 0 0),(Value.slice none 0 0),(Value.slice none 0 0)],Value.int IntKind.i64 0,.agg #[(Value.int IntKind.u64 0),(Value.int IntKind.u64 0),(Value.int IntKind.u64 0),(Value.int IntKind.u64 0),(Value.int IntKind.u64 0),(Value.int IntKind.u64 0),(Value.int IntKind.u64 0),(Value.int IntKind.u64 0),(Value.int IntKind.u64 0),(Value.int IntKind.u64 0),(Value.int IntKind.u64 0),(Value.int IntKind.u64 0),(Value.int IntKind.u64 0),(Value.int IntKind.u64 0),(Value.int IntKind.u64 0),(Value.int IntKind.u64 0),(Value.int IntKind.u64 0),(Value.int IntKind.u64 0),(Value.int IntKind.u64 0),(Value.int IntKind.u64 0),(Value.int IntKind.u64 0),(Value.int IntKind.u64 0),(Value.int IntKind.u64 0),(Value.int IntKind.u64 0),(Value.int IntKind.u64 0),(Value.int IntKind.u64 0),(Value.int IntKind.u64 0),(Value.int IntKind.u64 0),(Value.int IntKind.u64 0),(Value.int IntKind.u64 0),(Value.int IntKind.u64 0),(Value.int IntKind.u64 0),(Value.int IntKind.u64 0),(Value.int IntKind.u64 0),(Value.int IntKind.u64 0),(Value.int IntKind.u64 0),(Value.int IntKind.u64 0),(Value.int IntKind.u64 0),(Value.int IntKind.u64 0),(Value.int IntKind.u64 0),(Value.int IntKind.u64 0),(Value.int IntKind.u64 0),(Value.int IntKind.u64 0),(Value.int IntKind.u64 0),(Value.int IntKind.u64 0),(Value.int IntKind.u64 0),(Value.int IntKind.u64 0),(Value.int IntKind.u64 0)]] 64 rfl (by kernel_rfl) (by kernel_rfl) (by kernel_rfl) (by kernel_rfl) (by kernel_rfl) (Yec os _)) ?_
 intro W base args ds gs before hval hW _ _ hL _
 exact Yhv H enc W base args ds gs before hval hW (Ymr hL)
theorem Yla:Rows.AuditNeverSaid:=
 OpenClaim.holds_of_wide 3 Tryz.f3 rfl rfl rfl rfl rfl rfl rfl ⟨rfl,rfl,rfl,rfl,rfl⟩ rfl rfl rfl rfl rfl (by kernel_rfl) Tryz.func3 Yyx
  (of_decide_eq_true (by kernel_rfl)) (by unfold Func.isWrapper;first | (rw [if_pos (by decide+kernel)];kernel_rfl) | (rw [if_neg (by decide+kernel)];exact ⟨rfl,rfl⟩))
  (fun os started H enc _=>Yh0 os started H enc)
theorem auditNever_holds:Rows.AuditNeverCardSaid:=
 Claim7.holds_tied_plain_at .later [] [.handle] true (true,"fecc8bdf5ea39bd60a5582f722fdd6e46235b304f1d97462c25c67bbcdb64601") true
  Yla (fun _ h=>by cases h) Yrj (fun _ h=>by cases h) auditNever_row_tie rfl ⟨rfl,rfl⟩ Yvi rfl
  (fun f fn hf hfn=>by
   obtain rfl:f=3:=Option.some.inj (auditNever_k2.symm.trans hf) |>.symm
   obtain rfl:fn=Tryz.f3:=(Option.some.inj (Tryz.func3.symm.trans hfn)).symm
   exact ⟨Yxg,fun j t ht=>by
    rw [Tryz.params3] at ht
    have h3:t∈[26,3,31]:=by simpa using Array.mem_of_getElem? ht
    simp only [List.mem_cons,List.not_mem_nil,or_false] at h3
    rcases h3 with rfl | rfl | rfl
    ·exact Yh6
    ·exact Ye3
    ·exact Yib⟩)
  Yol
end Go.Proofs.YtinplddjjalohaaGreatDoor.W
