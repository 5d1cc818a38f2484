/- Whatever the arguments: AuditAlike returns true and leaves its arguments as they were, the variable errors.errorType being what the program's text makes it. No other condition. -/
import Derived.Test.YtinplddjjalohaaGreatDoorRowAF
import Derived.Test.YtinplddjjalohaaGreatDoorRows
import Derived.Test.YtinplddjjalohaaGreatDoorCards
import Derived.Test.YtinplddjjalohaaGreatDoorTie
import Derived.SevenTiedAt
import Derived.Handed
import Derived.LaidLaws
import Derived.LaidHandle
import Derived.ChangeVars
import Derived.Stop.Joined
import Derived.Test.YtinplddjjalohaaGreatDoorP1
set_option linter.unusedVariables false
set_option linter.unusedSimpArgs false
namespace Go.Proofs.YtinplddjjalohaaGreatDoor.W
open Go Go.Wb
open Go.Proofs.YtinplddjjalohaaGreatDoor
open Go.ChangeShapes Go.WideShapes Go.ChangeAt Go.RowKit
theorem Zz2:Rdb Tryz.prog 27 Z05:=Yty (by kernel_rfl)
theorem rdb3:Rdb Tryz.prog 3 (Z0 .i64):=Zu6 (by kernel_rfl)
theorem Ydo:Rdb Tryz.prog 4 Z6:=Yl3 (by kernel_rfl)
theorem Zqp:Rdb Tryz.prog 29 Zn:=Zcq (fun y=>⟨y.1,y.2⟩) (by kernel_rfl) (by kernel_rfl) (fun _=>rfl) (Z37 Zz2 (by kernel_rfl) (Zbn Zz2 (by kernel_rfl)))
theorem Y6m:Rdb Tryz.prog 217 Z0h:=Zcq (fun y=>⟨y.1,y.2.1,y.2.2.1,y.2.2.2⟩) (by kernel_rfl) (by kernel_rfl) (fun _=>rfl) (Z37 rdb3 (by kernel_rfl) (Z37 Ydo (by kernel_rfl) (Z37 Zqp (by kernel_rfl) (Zbn Zqp (by kernel_rfl)))))
theorem Yv8:Rdb Tryz.prog 45 (Z1 Z0h):=Zg4 (by kernel_rfl) (by kernel_rfl) rfl Y6m
theorem Ynv:Rdb Tryz.prog 219 Z9:=Zcq (fun y=>⟨y.1,y.2.1,y.2.2.1,y.2.2.2.1,y.2.2.2.2.1,y.2.2.2.2.2⟩) (by kernel_rfl) (by kernel_rfl) (fun _=>rfl) (Z37 rdb3 (by kernel_rfl) (Z37 rdb3 (by kernel_rfl) (Z37 rdb3 (by kernel_rfl) (Z37 rdb3 (by kernel_rfl) (Z37 rdb3 (by kernel_rfl) (Zbn Y6m (by kernel_rfl)))))))
theorem Y8e:Rdb Tryz.prog 77 (Z1 Z9):=Zg4 (by kernel_rfl) (by kernel_rfl) rfl Ynv
theorem Ygw:Rdb Tryz.prog 140 Z0a:=Zcq (fun y=>⟨y.1,y.2.1,y.2.2.1,y.2.2.2.1,y.2.2.2.2⟩) (by kernel_rfl) (by kernel_rfl) (fun _=>rfl) (Z37 rdb3 (by kernel_rfl) (Z37 rdb3 (by kernel_rfl) (Z37 Zqp (by kernel_rfl) (Z37 Zqp (by kernel_rfl) (Zbn Y8e (by kernel_rfl))))))
theorem Yc9:Rdb Tryz.prog 46 (Z1 Z0a):=Zg4 (by kernel_rfl) (by kernel_rfl) rfl Ygw
theorem rdb48:Rdb Tryz.prog 48 Z03:=Zcq (fun y=>⟨y.1,y.2.1,y.2.2.1,y.2.2.2.1,y.2.2.2.2.1,y.2.2.2.2.2.1,y.2.2.2.2.2.2⟩) (by kernel_rfl) (by kernel_rfl) (fun _=>rfl) (Z37 Zz2 (by kernel_rfl) (Z37 rdb3 (by kernel_rfl) (Z37 rdb3 (by kernel_rfl) (Z37 rdb3 (by kernel_rfl) (Z37 rdb3 (by kernel_rfl) (Z37 Yv8 (by kernel_rfl) (Zbn Yc9 (by kernel_rfl))))))))
theorem Ylh:Rdb Tryz.prog 22 (Z1 Z03):=Zg4 (by kernel_rfl) (by kernel_rfl) rfl rdb48
theorem Yr8:Rdb Tryz.prog 23 (Z3 4 (Z1 Z03)):=Ykh (by kernel_rfl) (by kernel_rfl) (by kernel_rfl) Ylh
theorem Ygj:Rdb Tryz.prog 168 Z1y:=Zcq (fun y=>⟨y.1,y.2.1,y.2.2.1,y.2.2.2⟩) (by kernel_rfl) (by kernel_rfl) (fun _=>rfl) (Z37 rdb3 (by kernel_rfl) (Z37 rdb3 (by kernel_rfl) (Z37 rdb3 (by kernel_rfl) (Zbn Y8e (by kernel_rfl)))))
theorem Yln:Rdb Tryz.prog 69 (Z1 Z1y):=Zg4 (by kernel_rfl) (by kernel_rfl) rfl Ygj
theorem Yq3:Rdb Tryz.prog 71 Z0d:=Zcq (fun y=>⟨y.1,y.2.1,y.2.2⟩) (by kernel_rfl) (by kernel_rfl) (fun _=>rfl) (Z37 rdb3 (by kernel_rfl) (Z37 rdb3 (by kernel_rfl) (Zbn Yln (by kernel_rfl))))
theorem Yby:Rdb Tryz.prog 24 (Z1 Z0d):=Zg4 (by kernel_rfl) (by kernel_rfl) rfl Yq3
theorem rdb26:Rdb Tryz.prog 26 Z08:=Zcq (fun y=>⟨y.1,y.2⟩) (by kernel_rfl) (by kernel_rfl) (fun _=>rfl) (Z37 Yr8 (by kernel_rfl) (Zbn Yby (by kernel_rfl)))
theorem rdb5:Rdb Tryz.prog 5 (Z0 .u8):=Zu6 (by kernel_rfl)
theorem Yws:ownKnob Tryz.prog.godebug=none:=by kernel_rfl
theorem Yow:laidOutB Tryz.prog=true:=Y7r
theorem Yg1 {W:World}(h:laidMetH Tryz.prog [("errors.errorType",Rows.laid_errors_errorType)] W):Amb Tryz.prog W Ze:=by
 have h':laidMet Tryz.prog [] W∧handlesMet Tryz.prog [("errors.errorType",Rows.laid_errors_errorType)] W:=h
 obtain ⟨name,u,ty,e1,e2,e3,e4,e5⟩:=h'.2 _ (List.mem_singleton.2 rfl)
 have en:name=[101,114,114,111,114]:=(Option.some.inj e1).symm
 subst en
 intro g hg
 have hc:W.cell? ⟨g,0,none⟩=some (.iface u (.agg #[typeHandle Tryz.prog ty])):=by simpa using World.var?_cell hg e5 0
 refine ⟨fun h=>h.elim,?_,u,ty,e2,e3,e4,hc⟩
 rcases Nat.lt_or_ge g W.heap.size with h | h
 ·exact h
 ·simp [World.cell?,Array.getElem?_eq_none h] at hc
noncomputable def Y26 (os:Os):World:=
 let w0:=World.holding Tryz.prog os ⟨#[],#[],[]⟩
 {w0 with heap:=w0.heap.modify 0 fun
   | .cells _ t frozen=> .cells #[.iface 230 (.agg #[.pointer (some ⟨1,88,none⟩)])] t frozen
   | o=>o}
theorem Ytl (os:Os)(args:Array Value):laidMetH Tryz.prog [("errors.errorType",Rows.laid_errors_errorType)] ((Y26 os).forCall (fun _ _=>0) ⟨#[],args,[]⟩).memory:=
 laidMetH_of_parts (laidMet_nil _ _) (by kernel_rfl)
set_option maxRecDepth 100000 in
theorem Ybq (H:Type)(enc:TypeId×Value→H)(W:World)(base:Nat)(args:Array Value)(ds gs:List (DataW H))(before:List MemPlace)
  (hval:∀(j:Nat) t v,Tryz.f4.params[j]? =some t→args[j]? =some v→Value.okWide Tryz.prog W .any base t v)
  (hW:DataW.Whole enc Tryz.prog Tryz.f4.params.toList Rows.auditAlikeSpec.vars false W args.toList ds gs before)(hL:Amb Tryz.prog W Ze):
  Calls Tryz.prog 4 args W fun e W'=> ∃v,e= .returned v∧Rows.auditAlikeSpec.post enc Tryz.prog Tryz.f4 false true false false W args v W':=by
 have hW':=hW
 obtain ⟨p,q,hA0,hV,hps,hfz,hnd⟩:=hW
 have hA:DataW.TrodAll enc Tryz.prog W 0 (fun _=>true) true [26,3,48,5] args.toList ds p:=hA0
 obtain ⟨v0,vs0,d0,ds0,p0,q0,hargs,rfl,rfl,h0,r0⟩:=trodAll_cons hA
 obtain ⟨v1,vs1,d1,ds1,p1,q1,rfl,rfl,rfl,h1,r1⟩:=trodAll_cons r0
 obtain ⟨v2,vs2,d2,ds2,p2,q2,rfl,rfl,rfl,h2,r2⟩:=trodAll_cons r1
 obtain ⟨v3,vs3,d3,ds3,p3,q3,rfl,rfl,rfl,h3,r3⟩:=trodAll_cons r2
 obtain ⟨rfl,rfl,rfl⟩:=trodAll_nil r3
 obtain rfl:args= #[v0,v1,v2,v3]:=by cases args;simp_all
 obtain ⟨rfl,rfl⟩:=trodVars_none hV
 rw [Tryz.params4] at hval
 obtain ⟨x0,hx0⟩:=rdb26.val Z20 (hval 0 26 v0 rfl rfl) h0
 obtain ⟨x1,hx1⟩:=rdb3.val Zp (hval 1 3 v1 rfl rfl) h1
 obtain ⟨x2,hx2⟩:=rdb48.val Z2b (hval 2 48 v2 rfl rfl) h2
 obtain ⟨x3,hx3⟩:=rdb5.val ty5 (hval 3 5 v3 rfl rfl) h3
 have hlaw:Zix x0 x1 x2 x3=some true:=Yet x0 x1 x2 x3 hx1 hx3
 refine (Yvv x0 x1 x2 x3 true hlaw W Ze [v0,v1,v2,v3] hL (fun _ h=>h.elim) ⟨hx0,hx1,hx2,hx3,trivial⟩).mono ?_
 rintro e W' ⟨v,rfl,hf,hB⟩
 have hv:v= .bool true:=Zdp hB
 subst hv
 exact ⟨_,rfl,Yuj (tb:=4) Yow (by kernel_rfl) rfl (by kernel_rfl) (by kernel_rfl) hW' rfl hf⟩
set_option maxRecDepth 100000 in
theorem Yr6 (os:Os)(started:os.Started)(H:Type)(enc:TypeId×Value→H):
  ReturnsInHanded {} Tryz.checked os 4 .any (fun w args=>(Rows.auditAlikeSpec.pre enc Tryz.prog Tryz.f4 [] false w args∧laidMetH Tryz.prog [("errors.errorType",Rows.laid_errors_errorType)] w)∧sizedMet enc Tryz.prog Tryz.f4 (OpenSpec.ofChange Rows.auditAlikeSpec) false w args) (Rows.auditAlikeSpec.post enc Tryz.prog Tryz.f4 false true false false):=by
 refine returnsInHanded_of_change_and (C:=Tryz.checked) (X:=fun w _=>laidMetH Tryz.prog [("errors.errorType",Rows.laid_errors_errorType)] w) (fun _ _ _ hh h=>h.of_heap hh) Yws started (by kernel_rfl) Tryz.func4
  (ChangeSpec.witness_at (enc:=enc) (C:=Tryz.checked) (os:=os) (X:=fun w _=>laidMetH Tryz.prog [("errors.errorType",Rows.laid_errors_errorType)] w) false (Y26 os) #[.agg #[(Value.slice none 0 0),(Value.slice none 0 0),(Value.slice none 0 0),(Value.slice none 0 0),(Value.slice none 0 0)],Value.int IntKind.i64 0,.agg #[(Value.int IntKind.u64 0),(Value.int IntKind.i64 0),(Value.int IntKind.i64 0),(Value.int IntKind.i64 0),(Value.int IntKind.i64 0),(Value.slice none 0 0),(Value.slice none 0 0)],Value.int IntKind.u8 0] 64 rfl (by kernel_rfl) (by kernel_rfl) (by kernel_rfl) (by kernel_rfl) (by kernel_rfl) (Ytl os _)) ?_
 intro W base args ds gs before hval hW _ _ hL _
 exact Ybq H enc W base args ds gs before hval hW (Yg1 hL)
theorem Yfi:Rows.AuditAlikeSaid:=
 OpenClaim.holds_of_wide 4 Tryz.f4 rfl rfl rfl rfl rfl rfl rfl ⟨rfl,rfl,rfl,rfl,rfl⟩ rfl rfl rfl rfl rfl (by kernel_rfl) Tryz.func4 Yc5
  (of_decide_eq_true (by kernel_rfl)) (by unfold Func.isWrapper;first | (rw [if_pos (by decide+kernel)];kernel_rfl) | (rw [if_neg (by decide+kernel)];exact ⟨rfl,rfl⟩))
  (fun os started H enc _=>Yr6 os started H enc)
theorem auditAlike_holds:Rows.AuditAlikeCardSaid:=
 Claim7.holds_tied_plain_at .later [] [.handle] true (true,"fecc8bdf5ea39bd60a5582f722fdd6e46235b304f1d97462c25c67bbcdb64601") true
  Yfi (fun _ h=>by cases h) Yj9 (fun _ h=>by cases h) auditAlike_row_tie rfl ⟨rfl,rfl⟩ Yk3 rfl
  (fun f fn hf hfn=>by
   obtain rfl:f=4:=Option.some.inj (auditAlike_k2.symm.trans hf) |>.symm
   obtain rfl:fn=Tryz.f4:=(Option.some.inj (Tryz.func4.symm.trans hfn)).symm
   exact ⟨Yif,fun j t ht=>by
    rw [Tryz.params4] at ht
    have h3:t∈[26,3,48,5]:=by simpa using Array.mem_of_getElem? ht
    simp only [List.mem_cons,List.not_mem_nil,or_false] at h3
    rcases h3 with rfl | rfl | rfl | rfl
    ·exact Yo3
    ·exact Yiu
    ·exact Ycf
    ·exact Yqk⟩)
  Yfp
end Go.Proofs.YtinplddjjalohaaGreatDoor.W
