/- Whatever the arguments: FindSem returns true and leaves its arguments as they were. No condition. -/
import Derived.Test.YtknpgojdkobgjaaGreatRowFSeF
import Derived.Test.YtknpgojdkobgjaaGreatRows
import Derived.Test.YtknpgojdkobgjaaGreatP1
set_option linter.unusedVariables false
set_option linter.unusedSimpArgs false
namespace Go.Proofs.YtknpgojdkobgjaaGreat.W
open Go Go.Wb
open Go.ChangeShapes Go.WideShapes Go.ChangeAt Go.RowKit
theorem Zs9 : Rdb Tryz.prog 40 Z0o := Yfy (by kernel_rfl)
theorem rdb3 : Rdb Tryz.prog 3 (Z0 .i64) := Zx2 (by kernel_rfl)
theorem Yeb : Rdb Tryz.prog 4 Z7 := Yfs (by kernel_rfl)
theorem Zl9 : Rdb Tryz.prog 42 Zd := Z9d (fun y => ⟨y.1, y.2⟩) (by kernel_rfl) (by kernel_rfl) (fun _ => rfl) (Z2q Zs9 (by kernel_rfl) (Z9e Zs9 (by kernel_rfl)))
theorem Y1n : Rdb Tryz.prog 119 Z2f := Z9d (fun y => ⟨y.1, y.2.1, y.2.2.1, y.2.2.2⟩) (by kernel_rfl) (by kernel_rfl) (fun _ => rfl) (Z2q rdb3 (by kernel_rfl) (Z2q Yeb (by kernel_rfl) (Z2q Zl9 (by kernel_rfl) (Z9e Zl9 (by kernel_rfl)))))
theorem Yhx : Rdb Tryz.prog 58 (Z2 Z2f) := Zdk (by kernel_rfl) (by kernel_rfl) rfl Y1n
theorem Ylv : Rdb Tryz.prog 121 Z8 := Z9d (fun y => ⟨y.1, y.2.1, y.2.2.1, y.2.2.2.1, y.2.2.2.2.1, y.2.2.2.2.2⟩) (by kernel_rfl) (by kernel_rfl) (fun _ => rfl) (Z2q rdb3 (by kernel_rfl) (Z2q rdb3 (by kernel_rfl) (Z2q rdb3 (by kernel_rfl) (Z2q rdb3 (by kernel_rfl) (Z2q rdb3 (by kernel_rfl) (Z9e Y1n (by kernel_rfl)))))))
theorem Y0u : Rdb Tryz.prog 122 (Z2 Z8) := Zdk (by kernel_rfl) (by kernel_rfl) rfl Ylv
theorem Ylg : Rdb Tryz.prog 124 Z1a := Z9d (fun y => ⟨y.1, y.2.1, y.2.2.1, y.2.2.2.1, y.2.2.2.2⟩) (by kernel_rfl) (by kernel_rfl) (fun _ => rfl) (Z2q rdb3 (by kernel_rfl) (Z2q rdb3 (by kernel_rfl) (Z2q Zl9 (by kernel_rfl) (Z2q Zl9 (by kernel_rfl) (Z9e Y0u (by kernel_rfl))))))
theorem Yfw : Rdb Tryz.prog 59 (Z2 Z1a) := Zdk (by kernel_rfl) (by kernel_rfl) rfl Ylg
theorem Ydw : Rdb Tryz.prog 61 Z0n := Z9d (fun y => ⟨y.1, y.2.1, y.2.2.1, y.2.2.2.1, y.2.2.2.2.1, y.2.2.2.2.2.1, y.2.2.2.2.2.2⟩) (by kernel_rfl) (by kernel_rfl) (fun _ => rfl) (Z2q Zs9 (by kernel_rfl) (Z2q rdb3 (by kernel_rfl) (Z2q rdb3 (by kernel_rfl) (Z2q rdb3 (by kernel_rfl) (Z2q rdb3 (by kernel_rfl) (Z2q Yhx (by kernel_rfl) (Z9e Yfw (by kernel_rfl))))))))
theorem Ybl : Rdb Tryz.prog 22 (Z2 Z0n) := Zdk (by kernel_rfl) (by kernel_rfl) rfl Ydw
theorem Yc2 : Rdb Tryz.prog 23 (Z1 4 (Z2 Z0n)) := Zxg (by kernel_rfl) (by kernel_rfl) (by kernel_rfl) Ybl
theorem Yai : Rdb Tryz.prog 226 Z26 := Z9d (fun y => ⟨y.1, y.2.1, y.2.2.1, y.2.2.2⟩) (by kernel_rfl) (by kernel_rfl) (fun _ => rfl) (Z2q rdb3 (by kernel_rfl) (Z2q rdb3 (by kernel_rfl) (Z2q rdb3 (by kernel_rfl) (Z9e Y0u (by kernel_rfl)))))
theorem Yed : Rdb Tryz.prog 162 (Z2 Z26) := Zdk (by kernel_rfl) (by kernel_rfl) rfl Yai
theorem Yju : Rdb Tryz.prog 164 Z0d := Z9d (fun y => ⟨y.1, y.2.1, y.2.2⟩) (by kernel_rfl) (by kernel_rfl) (fun _ => rfl) (Z2q rdb3 (by kernel_rfl) (Z2q rdb3 (by kernel_rfl) (Z9e Yed (by kernel_rfl))))
theorem Yeh : Rdb Tryz.prog 24 (Z2 Z0d) := Zdk (by kernel_rfl) (by kernel_rfl) rfl Yju
theorem rdb26 : Rdb Tryz.prog 26 Z0i := Z9d (fun y => ⟨y.1, y.2⟩) (by kernel_rfl) (by kernel_rfl) (fun _ => rfl) (Z2q Yc2 (by kernel_rfl) (Z9e Yeh (by kernel_rfl)))
theorem Ylw : Rdb Tryz.prog 37 (Z2 (Z0 .i64)) := Zdk (by kernel_rfl) (by kernel_rfl) rfl rdb3
theorem rdb39 : Rdb Tryz.prog 39 Z1m := Z9d (fun y => ⟨y.1, y.2⟩) (by kernel_rfl) (by kernel_rfl) (fun _ => rfl) (Z2q rdb3 (by kernel_rfl) (Z9e Ylw (by kernel_rfl)))
theorem rdb44 : Rdb Tryz.prog 44 (Z1 24 Zd) := Zxg (by kernel_rfl) (by kernel_rfl) (by kernel_rfl) Zl9
theorem Y6k : ownKnob Tryz.prog.godebug = none := by kernel_rfl
theorem Y9h : laidOutB Tryz.prog = true := by kernel_rfl
set_option maxRecDepth 100000 in
theorem Y6e (H : Type) (enc : TypeId × Value → H) (W : World) (base : Nat) (args : Array Value) (ds gs : List (DataW H)) (before : List MemPlace)
  (hval : ∀ (j : Nat) t v, Tryz.f17.params[j]? = some t → args[j]? = some v → Value.okWide Tryz.prog W .any base t v)
  (hW : DataW.Whole enc Tryz.prog Tryz.f17.params.toList Rows.findSemSpec.vars false W args.toList ds gs before) :
  Calls Tryz.prog 17 args W fun e W' => ∃ v, e = .returned v ∧ Rows.findSemSpec.post enc Tryz.prog Tryz.f17 false true false false W args v W' := by
 have hW' := hW
 obtain ⟨p, q, hA0, hV, hps, hfz, hnd⟩ := hW
 have hA : DataW.TrodAll enc Tryz.prog W 0 (fun _ => true) true [26, 3, 39, 44] args.toList ds p := hA0
 obtain ⟨v0, vs0, d0, ds0, p0, q0, hargs, rfl, rfl, h0, r0⟩ := trodAll_cons hA
 obtain ⟨v1, vs1, d1, ds1, p1, q1, rfl, rfl, rfl, h1, r1⟩ := trodAll_cons r0
 obtain ⟨v2, vs2, d2, ds2, p2, q2, rfl, rfl, rfl, h2, r2⟩ := trodAll_cons r1
 obtain ⟨v3, vs3, d3, ds3, p3, q3, rfl, rfl, rfl, h3, r3⟩ := trodAll_cons r2
 obtain ⟨rfl, rfl, rfl⟩ := trodAll_nil r3
 obtain rfl : args = #[v0, v1, v2, v3] := by cases args; simp_all
 obtain ⟨rfl, rfl⟩ := trodVars_none hV
 rw [Tryz.params17] at hval
 obtain ⟨x0, hx0⟩ := rdb26.val Z5t (hval 0 26 v0 rfl rfl) h0
 obtain ⟨x1, hx1⟩ := rdb3.val Zt (hval 1 3 v1 rfl rfl) h1
 obtain ⟨x2, hx2⟩ := rdb39.val Z6h (hval 2 39 v2 rfl rfl) h2
 obtain ⟨x3, hx3⟩ := rdb44.val Z0f (hval 3 44 v3 rfl rfl) h3
 have hlaw : Zht x0 x1 x2 x3 = some true := Ygv x0 x1 x2 x3 hx1
 refine (Yl5 x0 x1 x2 x3 true hlaw W Zf [v0, v1, v2, v3] (fun _ h => h.elim) ⟨hx0, hx1, hx2, hx3, trivial⟩).mono ?_
 rintro e W' ⟨v, rfl, hf, hB⟩
 have hv : v = .bool true := Zdf hB
 subst hv
 exact ⟨_, rfl, Yix (tb := 4) Y9h (by kernel_rfl) rfl (by kernel_rfl) (by kernel_rfl) hW' rfl hf⟩
set_option maxRecDepth 100000 in
theorem Yin (os : Os) (started : os.Started) (H : Type) (enc : TypeId × Value → H) :
  ReturnsInHanded {} Tryz.checked os 17 .any (Rows.findSemSpec.pre6 enc Tryz.prog Tryz.f17 Rows.findSemRow.domain false) (Rows.findSemSpec.post enc Tryz.prog Tryz.f17 false true false false) := by
 refine returnsInHanded_of_change (C := Tryz.checked) Y6k started (by kernel_rfl) Tryz.func17
  (ChangeSpec.witness6 (enc := enc) (C := Tryz.checked) false ⟨#[], #[.agg #[(Value.slice none 0 0), (Value.slice none 0 0), (Value.slice none 0 0), (Value.slice none 0 0), (Value.slice none 0 0)], Value.int IntKind.i64 0, .agg #[(Value.int IntKind.i64 0), (Value.slice none 0 0)], .agg #[(Value.int IntKind.u64 0), (Value.int IntKind.u64 0), (Value.int IntKind.u64 0), (Value.int IntKind.u64 0), (Value.int IntKind.u64 0), (Value.int IntKind.u64 0), (Value.int IntKind.u64 0), (Value.int IntKind.u64 0), (Value.int IntKind.u64 0), (Value.int IntKind.u64 0), (Value.int IntKind.u64 0), (Value.int IntKind.u64 0), (Value.int IntKind.u64 0), (Value.int IntKind.u64 0), (Value.int IntKind.u64 0), (Value.int IntKind.u64 0), (Value.int IntKind.u64 0), (Value.int IntKind.u64 0), (Value.int IntKind.u64 0), (Value.int IntKind.u64 0), (Value.int IntKind.u64 0), (Value.int IntKind.u64 0), (Value.int IntKind.u64 0), (Value.int IntKind.u64 0), (Value.int IntKind.u64 0), (Value.int IntKind.u64 0), (Value.int IntKind.u64 0), (Value.int IntKind.u64 0), (Value.int IntKind.u64 0), (Value.int IntKind.u64 0), (Value.int IntKind.u64 0), (Value.int IntKind.u64 0), (Value.int IntKind.u64 0), (Value.int IntKind.u64 0), (Value.int IntKind.u64 0), (Value.int IntKind.u64 0), (Value.int IntKind.u64 0), (Value.int IntKind.u64 0), (Value.int IntKind.u64 0), (Value.int IntKind.u64 0), (Value.int IntKind.u64 0), (Value.int IntKind.u64 0), (Value.int IntKind.u64 0), (Value.int IntKind.u64 0), (Value.int IntKind.u64 0), (Value.int IntKind.u64 0), (Value.int IntKind.u64 0), (Value.int IntKind.u64 0)]], []⟩ 64 (by kernel_rfl) (by kernel_rfl) (by kernel_rfl) (by kernel_rfl)) ?_
 intro W base args ds gs before hval hW _ _
 exact Y6e H enc W base args ds gs before hval hW
theorem findSem_holds : Rows.FindSemSaid :=
 OpenClaim.holds_of_wide 17 Tryz.f17 rfl rfl rfl rfl rfl rfl rfl ⟨rfl, rfl, rfl, rfl, rfl⟩ rfl rfl rfl rfl rfl (by kernel_rfl) Tryz.func17 Y8q
  (of_decide_eq_true (by kernel_rfl)) (by unfold Func.isWrapper; first | (rw [if_pos (by decide +kernel)]; kernel_rfl) | (rw [if_neg (by decide +kernel)]; exact ⟨rfl, rfl⟩))
  (fun os started H enc _ => Yin os started H enc)
end Go.Proofs.YtknpgojdkobgjaaGreat.W
