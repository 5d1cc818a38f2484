/- Whatever the arguments: EnvsFold returns true and leaves its arguments as they were. No condition. -/
import Derived.Test.YtknpgojdkobgjaaRowEFF
import Derived.Test.YtknpgojdkobgjaaRows
import Derived.Test.YtknpgojdkobgjaaP0
set_option linter.unusedVariables false
set_option linter.unusedSimpArgs false
namespace Go.Proofs.Ytknpgojdkobgjaa.W
open Go Go.Wb
open Go.ChangeShapes Go.WideShapes Go.ChangeAt Go.RowKit
theorem rdb3:Rdb Try.prog 3 (Z0 .i64):=Zg2 (by kernel_rfl)
theorem Zs4:Rdb Try.prog 4 Z5:=Znc (by kernel_rfl)
theorem Zj2:Rdb Try.prog 26 Z01:=Zlc (by kernel_rfl)
theorem Ze5:Rdb Try.prog 28 Zk:=Z71 (fun y=>⟨y.1,y.2⟩) (by kernel_rfl) (by kernel_rfl) (fun _=>rfl) (Z27 Zj2 (by kernel_rfl) (Z7j Zj2 (by kernel_rfl)))
theorem Zsw:Rdb Try.prog 93 Z1t:=Z71 (fun y=>⟨y.1,y.2.1,y.2.2.1,y.2.2.2⟩) (by kernel_rfl) (by kernel_rfl) (fun _=>rfl) (Z27 rdb3 (by kernel_rfl) (Z27 Zs4 (by kernel_rfl) (Z27 Ze5 (by kernel_rfl) (Z7j Ze5 (by kernel_rfl)))))
theorem Zsx:Rdb Try.prog 95 Z3:=Z71 (fun y=>⟨y.1,y.2.1,y.2.2.1,y.2.2.2.1,y.2.2.2.2.1,y.2.2.2.2.2⟩) (by kernel_rfl) (by kernel_rfl) (fun _=>rfl) (Z27 rdb3 (by kernel_rfl) (Z27 rdb3 (by kernel_rfl) (Z27 rdb3 (by kernel_rfl) (Z27 rdb3 (by kernel_rfl) (Z27 rdb3 (by kernel_rfl) (Z7j Zsw (by kernel_rfl)))))))
theorem Zlk:Rdb Try.prog 66 (Z2 Z3):=Zbb (by kernel_rfl) (by kernel_rfl) rfl Zsx
theorem Zn3:Rdb Try.prog 68 Z03:=Z71 (fun y=>⟨y.1,y.2.1,y.2.2.1,y.2.2.2⟩) (by kernel_rfl) (by kernel_rfl) (fun _=>rfl) (Z27 rdb3 (by kernel_rfl) (Z27 rdb3 (by kernel_rfl) (Z27 rdb3 (by kernel_rfl) (Z7j Zlk (by kernel_rfl)))))
theorem Zo3:Rdb Try.prog 61 (Z2 Z03):=Zbb (by kernel_rfl) (by kernel_rfl) rfl Zn3
theorem Zml:Rdb Try.prog 63 Zd:=Z71 (fun y=>⟨y.1,y.2.1,y.2.2⟩) (by kernel_rfl) (by kernel_rfl) (fun _=>rfl) (Z27 rdb3 (by kernel_rfl) (Z27 rdb3 (by kernel_rfl) (Z7j Zo3 (by kernel_rfl))))
theorem rdb22:Rdb Try.prog 22 (Z2 Zd):=Zbb (by kernel_rfl) (by kernel_rfl) rfl Zml
theorem Zt5:Rdb Try.prog 23 (Z2 (Z0 .i64)):=Zbb (by kernel_rfl) (by kernel_rfl) rfl rdb3
theorem rdb25:Rdb Try.prog 25 Zn:=Z71 (fun y=>⟨y.1,y.2⟩) (by kernel_rfl) (by kernel_rfl) (fun _=>rfl) (Z27 rdb3 (by kernel_rfl) (Z7j Zt5 (by kernel_rfl)))
theorem rdb30:Rdb Try.prog 30 (Zm 24 Zk):=Ztz (by kernel_rfl) (by kernel_rfl) (by kernel_rfl) Ze5
theorem Zmk:ownKnob Try.prog.godebug=none:=by kernel_rfl
theorem Zko:laidOutB Try.prog=true:=by kernel_rfl
set_option maxRecDepth 100000 in
theorem Zrb (H:Type)(enc:TypeId×Value→H)(W:World)(base:Nat)(args:Array Value)(ds gs:List (DataW H))(before:List MemPlace)
  (hval:∀(j:Nat) t v,Try.f3.params[j]? =some t→args[j]? =some v→Value.okWide Try.prog W .any base t v)
  (hW:DataW.Whole enc Try.prog Try.f3.params.toList Rows.envsFoldSpec.vars false W args.toList ds gs before):
  Calls Try.prog 3 args W fun e W'=> ∃v,e= .returned v∧Rows.envsFoldSpec.post enc Try.prog Try.f3 false true false false W args v W':=by
 have hW':=hW
 obtain ⟨p,q,hA0,hV,hps,hfz,hnd⟩:=hW
 have hA:DataW.TrodAll enc Try.prog W 0 (fun _=>true) true [22,25,3,30] args.toList ds p:=hA0
 obtain ⟨v0,vs0,d0,ds0,p0,q0,hargs,rfl,rfl,h0,r0⟩:=trodAll_cons hA
 obtain ⟨v1,vs1,d1,ds1,p1,q1,rfl,rfl,rfl,h1,r1⟩:=trodAll_cons r0
 obtain ⟨v2,vs2,d2,ds2,p2,q2,rfl,rfl,rfl,h2,r2⟩:=trodAll_cons r1
 obtain ⟨v3,vs3,d3,ds3,p3,q3,rfl,rfl,rfl,h3,r3⟩:=trodAll_cons r2
 obtain ⟨rfl,rfl,rfl⟩:=trodAll_nil r3
 obtain rfl:args= #[v0,v1,v2,v3]:=by cases args;simp_all
 obtain ⟨rfl,rfl⟩:=trodVars_none hV
 rw [Try.params3] at hval
 obtain ⟨x0,hx0⟩:=rdb22.val Zca (hval 0 22 v0 rfl rfl) h0
 obtain ⟨x1,hx1⟩:=rdb25.val Z1h (hval 1 25 v1 rfl rfl) h1
 obtain ⟨x2,hx2⟩:=rdb3.val Zl (hval 2 3 v2 rfl rfl) h2
 obtain ⟨x3,hx3⟩:=rdb30.val Z1v (hval 3 30 v3 rfl rfl) h3
 have hlaw:Z9c x0 x1 x2 x3=some true:=Zm8 x0 x1 x2 x3
 refine (Zmz x0 x1 x2 x3 true hlaw W Z6 [v0,v1,v2,v3] (fun _ h=>h.elim) ⟨hx0,hx1,hx2,hx3,trivial⟩).mono ?_
 rintro e W' ⟨v,rfl,hf,hB⟩
 have hv:v= .bool true:=Z5s hB
 subst hv
 exact ⟨_,rfl,Zqa (tb:=4) Zko (by kernel_rfl) rfl (by kernel_rfl) (by kernel_rfl) hW' rfl hf⟩
set_option maxRecDepth 100000 in
theorem Zth (os:Os)(started:os.Started)(H:Type)(enc:TypeId×Value→H):
  ReturnsInHanded {} Try.checked os 3 .any (Rows.envsFoldSpec.pre6 enc Try.prog Try.f3 Rows.envsFoldRow.domain false) (Rows.envsFoldSpec.post enc Try.prog Try.f3 false true false false):=by
 refine returnsInHanded_of_change (C:=Try.checked) Zmk started (by kernel_rfl) Try.func3
  (ChangeSpec.witness6 (enc:=enc) (C:=Try.checked) false ⟨#[],#[Value.slice none 0 0,.agg #[(Value.int IntKind.i64 0),(Value.slice none 0 0)],Value.int IntKind.i64 0,.agg #[(Value.int IntKind.u64 0),(Value.int IntKind.u64 0),(Value.int IntKind.u64 0),(Value.int IntKind.u64 0),(Value.int IntKind.u64 0),(Value.int IntKind.u64 0),(Value.int IntKind.u64 0),(Value.int IntKind.u64 0),(Value.int IntKind.u64 0),(Value.int IntKind.u64 0),(Value.int IntKind.u64 0),(Value.int IntKind.u64 0),(Value.int IntKind.u64 0),(Value.int IntKind.u64 0),(Value.int IntKind.u64 0),(Value.int IntKind.u64 0),(Value.int IntKind.u64 0),(Value.int IntKind.u64 0),(Value.int IntKind.u64 0),(Value.int IntKind.u64 0),(Value.int IntKind.u64 0),(Value.int IntKind.u64 0),(Value.int IntKind.u64 0),(Value.int IntKind.u64 0),(Value.int IntKind.u64 0),(Value.int IntKind.u64 0),(Value.int IntKind.u64 0),(Value.int IntKind.u64 0),(Value.int IntKind.u64 0),(Value.int IntKind.u64 0),(Value.int IntKind.u64 0),(Value.int IntKind.u64 0),(Value.int IntKind.u64 0),(Value.int IntKind.u64 0),(Value.int IntKind.u64 0),(Value.int IntKind.u64 0),(Value.int IntKind.u64 0),(Value.int IntKind.u64 0),(Value.int IntKind.u64 0),(Value.int IntKind.u64 0),(Value.int IntKind.u64 0),(Value.int IntKind.u64 0),(Value.int IntKind.u64 0),(Value.int IntKind.u64 0),(Value.int IntKind.u64 0),(Value.int IntKind.u64 0),(Value.int IntKind.u64 0),(Value.int IntKind.u64 0)]],[]⟩ 64 (by kernel_rfl) (by kernel_rfl) (by kernel_rfl) (by kernel_rfl)) ?_
 intro W base args ds gs before hval hW _ _
 exact Zrb H enc W base args ds gs before hval hW
theorem envsFold_holds:Rows.EnvsFoldSaid:=
 OpenClaim.holds_of_wide 3 Try.f3 rfl rfl rfl rfl rfl rfl rfl ⟨rfl,rfl,rfl,rfl,rfl⟩ rfl rfl rfl rfl rfl (by kernel_rfl) Try.func3 Zpe
  (of_decide_eq_true (by kernel_rfl)) (by unfold Func.isWrapper;first | (rw [if_pos (by decide+kernel)];kernel_rfl) | (rw [if_neg (by decide+kernel)];exact ⟨rfl,rfl⟩))
  (fun os started H enc _=>Zth os started H enc)
end Go.Proofs.Ytknpgojdkobgjaa.W
