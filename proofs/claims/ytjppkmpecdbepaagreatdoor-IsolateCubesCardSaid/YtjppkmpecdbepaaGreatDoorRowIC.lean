/- Whatever the arguments: IsolateCubes returns true and leaves its arguments as they were, the variable errors.errorType being what the program's text makes it. No other condition. -/
import Derived.Test.YtjppkmpecdbepaaGreatDoorRowICF
import Derived.Test.YtjppkmpecdbepaaGreatDoorRows
import Derived.Test.YtjppkmpecdbepaaGreatDoorCards
import Derived.Test.YtjppkmpecdbepaaGreatDoorTie
import Derived.SevenTiedAt
import Derived.Handed
import Derived.LaidLaws
import Derived.LaidHandle
import Derived.ChangeVars
import Derived.Stop.Joined
import Derived.Test.YtjppkmpecdbepaaGreatDoorP0
set_option linter.unusedVariables false
set_option linter.unusedSimpArgs false
namespace Go.Proofs.YtjppkmpecdbepaaGreatDoor.W
open Go Go.Wb
open Go.Proofs.YtjppkmpecdbepaaGreatDoor
open Go.ChangeShapes Go.WideShapes Go.ChangeAt Go.RowKit
theorem rdb3:Rdb Tryz.prog 3 (Z0 .i64):=Y3x (by kernel_rfl)
theorem Ylq:Rdb Tryz.prog 4 Z3:=Yir (by kernel_rfl)
theorem Y45:Rdb Tryz.prog 26 Zx:=Y8j (by kernel_rfl)
theorem Y34:Rdb Tryz.prog 28 Zw:=Zqt (fun y=>⟨y.1,y.2⟩) (by kernel_rfl) (by kernel_rfl) (fun _=>rfl) (Zai Y45 (by kernel_rfl) (Zsw Y45 (by kernel_rfl)))
theorem Y1v:Rdb Tryz.prog 30 Z7:=Zqt (fun y=>⟨y.1,y.2⟩) (by kernel_rfl) (by kernel_rfl) (fun _=>rfl) (Zai Y34 (by kernel_rfl) (Zsw Y34 (by kernel_rfl)))
theorem Yiq:Rdb Tryz.prog 32 (Z4 24 Z7):=Zwk (by kernel_rfl) (by kernel_rfl) (by kernel_rfl) Y1v
theorem Yob:Rdb Tryz.prog 52 (Z4 24 Z7):=Zwk (by kernel_rfl) (by kernel_rfl) (by kernel_rfl) Y1v
theorem Y50:Rdb Tryz.prog 54 Z0u:=Zqt (fun y=>⟨y.1,y.2.1,y.2.2.1,y.2.2.2.1,y.2.2.2.2.1,y.2.2.2.2.2⟩) (by kernel_rfl) (by kernel_rfl) (fun _=>rfl) (Zai rdb3 (by kernel_rfl) (Zai rdb3 (by kernel_rfl) (Zai rdb3 (by kernel_rfl) (Zai Ylq (by kernel_rfl) (Zai Yiq (by kernel_rfl) (Zsw Yob (by kernel_rfl)))))))
theorem rdb22:Rdb Tryz.prog 22 (Z1 Z0u):=Yot (by kernel_rfl) (by kernel_rfl) rfl Y50
theorem Y8l:Ty Tryz.prog 22 (Z1 Z0u):=⟨by kernel_rfl,by kernel_rfl⟩
theorem Ymq:ownKnob Tryz.prog.godebug=none:=by kernel_rfl
theorem Ycv:laidOutB Tryz.prog=true:=Y0u
theorem Yf0 {W:World}(h:laidMetH Tryz.prog [("errors.errorType",Rows.laid_errors_errorType)] W):Amb Tryz.prog W Zl:=by
 have h':laidMet Tryz.prog [] W∧handlesMet Tryz.prog [("errors.errorType",Rows.laid_errors_errorType)] W:=h
 obtain ⟨name,u,ty,e1,e2,e3,e4,e5⟩:=h'.2 _ (List.mem_singleton.2 rfl)
 have en:name=[101,114,114,111,114]:=(Option.some.inj e1).symm
 subst en
 intro g hg
 have hc:W.cell? ⟨g,0,none⟩=some (.iface u (.agg #[typeHandle Tryz.prog ty])):=by simpa using World.var?_cell hg e5 0
 refine ⟨fun h=>h.elim,?_,u,ty,e2,e3,e4,hc⟩
 rcases Nat.lt_or_ge g W.heap.size with h | h
 ·exact h
 ·simp [World.cell?,Array.getElem?_eq_none h] at hc
noncomputable def Y3k (os:Os):World:=
 let w0:=World.holding Tryz.prog os ⟨#[],#[],[]⟩
 {w0 with heap:=w0.heap.modify 0 fun
   | .cells _ t frozen=> .cells #[.iface 335 (.agg #[.pointer (some ⟨1,139,none⟩)])] t frozen
   | o=>o}
theorem Ymu (os:Os)(args:Array Value):laidMetH Tryz.prog [("errors.errorType",Rows.laid_errors_errorType)] ((Y3k os).forCall (fun _ _=>0) ⟨#[],args,[]⟩).memory:=
 laidMetH_of_parts (laidMet_nil _ _) (by kernel_rfl)
set_option maxRecDepth 100000 in
theorem Ybr (H:Type)(enc:TypeId×Value→H)(W:World)(base:Nat)(args:Array Value)(ds gs:List (DataW H))(before:List MemPlace)
  (hval:∀(j:Nat) t v,Tryz.f3.params[j]? =some t→args[j]? =some v→Value.okWide Tryz.prog W .any base t v)
  (hW:DataW.Whole enc Tryz.prog Tryz.f3.params.toList Rows.isolateCubesSpec.vars false W args.toList ds gs before)(hL:Amb Tryz.prog W Zl):
  Calls Tryz.prog 3 args W fun e W'=> ∃v,e= .returned v∧Rows.isolateCubesSpec.post enc Tryz.prog Tryz.f3 false true false false W args v W':=by
 have hW':=hW
 obtain ⟨p,q,hA0,hV,hps,hfz,hnd⟩:=hW
 have hA:DataW.TrodAll enc Tryz.prog W 0 (fun _=>true) true [22,3,3] args.toList ds p:=hA0
 obtain ⟨v0,vs0,d0,ds0,p0,q0,hargs,rfl,rfl,h0,r0⟩:=trodAll_cons hA
 obtain ⟨v1,vs1,d1,ds1,p1,q1,rfl,rfl,rfl,h1,r1⟩:=trodAll_cons r0
 obtain ⟨v2,vs2,d2,ds2,p2,q2,rfl,rfl,rfl,h2,r2⟩:=trodAll_cons r1
 obtain ⟨rfl,rfl,rfl⟩:=trodAll_nil r2
 obtain rfl:args= #[v0,v1,v2]:=by cases args;simp_all
 obtain ⟨rfl,rfl⟩:=trodVars_none hV
 rw [Tryz.params3] at hval
 obtain ⟨x0,hx0⟩:=rdb22.val Y8l (hval 0 22 v0 rfl rfl) h0
 obtain ⟨x1,hx1⟩:=rdb3.val Zc (hval 1 3 v1 rfl rfl) h1
 obtain ⟨x2,hx2⟩:=rdb3.val Zc (hval 2 3 v2 rfl rfl) h2
 have hlaw:Zea x0 x1 x2=some true:=Y4z x0 x1 x2
 refine (Ynw x0 x1 x2 true hlaw W Zl [v0,v1,v2] hL (fun _ h=>h.elim) ⟨hx0,hx1,hx2,trivial⟩).mono ?_
 rintro e W' ⟨v,rfl,hf,hB⟩
 have hv:v= .bool true:=Zaa hB
 subst hv
 exact ⟨_,rfl,Yg1 (tb:=4) Ycv (by kernel_rfl) rfl (by kernel_rfl) (by kernel_rfl) hW' rfl hf⟩
set_option maxRecDepth 100000 in
theorem Yi4 (os:Os)(started:os.Started)(H:Type)(enc:TypeId×Value→H):
  ReturnsInHanded {} Tryz.checked os 3 .any (fun w args=>(Rows.isolateCubesSpec.pre enc Tryz.prog Tryz.f3 [] false w args∧laidMetH Tryz.prog [("errors.errorType",Rows.laid_errors_errorType)] w)∧sizedMet enc Tryz.prog Tryz.f3 (OpenSpec.ofChange Rows.isolateCubesSpec) false w args) (Rows.isolateCubesSpec.post enc Tryz.prog Tryz.f3 false true false false):=by
 refine returnsInHanded_of_change_and (C:=Tryz.checked) (X:=fun w _=>laidMetH Tryz.prog [("errors.errorType",Rows.laid_errors_errorType)] w) (fun _ _ _ hh h=>h.of_heap hh) Ymq started (by kernel_rfl) Tryz.func3
  (ChangeSpec.witness_at (enc:=enc) (C:=Tryz.checked) (os:=os) (X:=fun w _=>laidMetH Tryz.prog [("errors.errorType",Rows.laid_errors_errorType)] w) false (Y3k os) #[Value.slice none 0 0,Value.int IntKind.i64 0,Value.int IntKind.i64 0] 64 rfl (by kernel_rfl) (by kernel_rfl) (by kernel_rfl) (by kernel_rfl) (by kernel_rfl) (Ymu os _)) ?_
 intro W base args ds gs before hval hW _ _ hL _
 exact Ybr H enc W base args ds gs before hval hW (Yf0 hL)
theorem Y7e:Rows.IsolateCubesSaid:=
 OpenClaim.holds_of_wide 3 Tryz.f3 rfl rfl rfl rfl rfl rfl rfl ⟨rfl,rfl,rfl,rfl,rfl⟩ rfl rfl rfl rfl rfl (by kernel_rfl) Tryz.func3 Y56
  (of_decide_eq_true (by kernel_rfl)) (by unfold Func.isWrapper;first | (rw [if_pos (by decide+kernel)];kernel_rfl) | (rw [if_neg (by decide+kernel)];exact ⟨rfl,rfl⟩))
  (fun os started H enc _=>Yi4 os started H enc)
theorem isolateCubes_holds:Rows.IsolateCubesCardSaid:=
 Claim7.holds_tied_plain_at .later [] [.handle] true (true,"964a78a6ca57218247cfd1dcfe9f24979b8796c2d241de0c015bfe6b764c1dc6") true
  Y7e (fun _ h=>by cases h) Y8q (fun _ h=>by cases h) isolateCubes_row_tie rfl ⟨rfl,rfl⟩ Yos rfl
  (fun f fn hf hfn=>by
   obtain rfl:f=3:=Option.some.inj (isolateCubes_k2.symm.trans hf) |>.symm
   obtain rfl:fn=Tryz.f3:=(Option.some.inj (Tryz.func3.symm.trans hfn)).symm
   exact ⟨Yj8,fun j t ht=>by
    rw [Tryz.params3] at ht
    have h3:t∈[22,3,3]:=by simpa using Array.mem_of_getElem? ht
    simp only [List.mem_cons,List.not_mem_nil,or_false] at h3
    rcases h3 with rfl | rfl | rfl
    ·exact Ydf
    ·exact Y32
    ·exact Y32⟩)
  Yig
end Go.Proofs.YtjppkmpecdbepaaGreatDoor.W
