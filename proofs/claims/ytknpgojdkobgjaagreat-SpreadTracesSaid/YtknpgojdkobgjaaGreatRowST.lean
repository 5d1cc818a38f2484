/- Whatever the arguments: SpreadTraces returns true and leaves its arguments as they were. No condition. -/
import Derived.Test.YtknpgojdkobgjaaGreatRowSTF
import Derived.Test.YtknpgojdkobgjaaGreatRows
import Derived.Test.YtknpgojdkobgjaaGreatP1
set_option linter.unusedVariables false
set_option linter.unusedSimpArgs false
namespace Go.Proofs.YtknpgojdkobgjaaGreat.W
open Go Go.Wb
open Go.ChangeShapes Go.WideShapes Go.ChangeAt Go.RowKit
theorem Zqa : Rdb Tryz.prog 40 Z0p := Ygy (by kernel_rfl)
theorem rdb3 : Rdb Tryz.prog 3 (Z0 .i64) := Zwh (by kernel_rfl)
theorem Ymw : Rdb Tryz.prog 4 Z5 := Yl4 (by kernel_rfl)
theorem Zet : Rdb Tryz.prog 42 Zd := Z6z (fun y => ⟨y.1, y.2⟩) (by kernel_rfl) (by kernel_rfl) (fun _ => rfl) (Z28 Zqa (by kernel_rfl) (Z78 Zqa (by kernel_rfl)))
theorem Zzz : Rdb Tryz.prog 119 Z2e := Z6z (fun y => ⟨y.1, y.2.1, y.2.2.1, y.2.2.2⟩) (by kernel_rfl) (by kernel_rfl) (fun _ => rfl) (Z28 rdb3 (by kernel_rfl) (Z28 Ymw (by kernel_rfl) (Z28 Zet (by kernel_rfl) (Z78 Zet (by kernel_rfl)))))
theorem Ylf : Rdb Tryz.prog 58 (Z1 Z2e) := Za1 (by kernel_rfl) (by kernel_rfl) rfl Zzz
theorem Yh3 : Rdb Tryz.prog 121 Z9 := Z6z (fun y => ⟨y.1, y.2.1, y.2.2.1, y.2.2.2.1, y.2.2.2.2.1, y.2.2.2.2.2⟩) (by kernel_rfl) (by kernel_rfl) (fun _ => rfl) (Z28 rdb3 (by kernel_rfl) (Z28 rdb3 (by kernel_rfl) (Z28 rdb3 (by kernel_rfl) (Z28 rdb3 (by kernel_rfl) (Z28 rdb3 (by kernel_rfl) (Z78 Zzz (by kernel_rfl)))))))
theorem Y46 : Rdb Tryz.prog 122 (Z1 Z9) := Za1 (by kernel_rfl) (by kernel_rfl) rfl Yh3
theorem Yjv : Rdb Tryz.prog 124 Z1e := Z6z (fun y => ⟨y.1, y.2.1, y.2.2.1, y.2.2.2.1, y.2.2.2.2⟩) (by kernel_rfl) (by kernel_rfl) (fun _ => rfl) (Z28 rdb3 (by kernel_rfl) (Z28 rdb3 (by kernel_rfl) (Z28 Zet (by kernel_rfl) (Z28 Zet (by kernel_rfl) (Z78 Y46 (by kernel_rfl))))))
theorem Yc9 : Rdb Tryz.prog 59 (Z1 Z1e) := Za1 (by kernel_rfl) (by kernel_rfl) rfl Yjv
theorem Ygj : Rdb Tryz.prog 61 Z16 := Z6z (fun y => ⟨y.1, y.2.1, y.2.2.1, y.2.2.2.1, y.2.2.2.2.1, y.2.2.2.2.2.1, y.2.2.2.2.2.2⟩) (by kernel_rfl) (by kernel_rfl) (fun _ => rfl) (Z28 Zqa (by kernel_rfl) (Z28 rdb3 (by kernel_rfl) (Z28 rdb3 (by kernel_rfl) (Z28 rdb3 (by kernel_rfl) (Z28 rdb3 (by kernel_rfl) (Z28 Ylf (by kernel_rfl) (Z78 Yc9 (by kernel_rfl))))))))
theorem Y7y : Rdb Tryz.prog 22 (Z1 Z16) := Za1 (by kernel_rfl) (by kernel_rfl) rfl Ygj
theorem Yaf : Rdb Tryz.prog 23 (Z3 4 (Z1 Z16)) := Zt5 (by kernel_rfl) (by kernel_rfl) (by kernel_rfl) Y7y
theorem Yo6 : Rdb Tryz.prog 226 Z1y := Z6z (fun y => ⟨y.1, y.2.1, y.2.2.1, y.2.2.2⟩) (by kernel_rfl) (by kernel_rfl) (fun _ => rfl) (Z28 rdb3 (by kernel_rfl) (Z28 rdb3 (by kernel_rfl) (Z28 rdb3 (by kernel_rfl) (Z78 Y46 (by kernel_rfl)))))
theorem Yne : Rdb Tryz.prog 162 (Z1 Z1y) := Za1 (by kernel_rfl) (by kernel_rfl) rfl Yo6
theorem Ya3 : Rdb Tryz.prog 164 Zz := Z6z (fun y => ⟨y.1, y.2.1, y.2.2⟩) (by kernel_rfl) (by kernel_rfl) (fun _ => rfl) (Z28 rdb3 (by kernel_rfl) (Z28 rdb3 (by kernel_rfl) (Z78 Yne (by kernel_rfl))))
theorem Ya8 : Rdb Tryz.prog 24 (Z1 Zz) := Za1 (by kernel_rfl) (by kernel_rfl) rfl Ya3
theorem Yml : Rdb Tryz.prog 26 Z0d := Z6z (fun y => ⟨y.1, y.2⟩) (by kernel_rfl) (by kernel_rfl) (fun _ => rfl) (Z28 Yaf (by kernel_rfl) (Z78 Ya8 (by kernel_rfl)))
theorem Yap : Rdb Tryz.prog 64 (Z1 Z0d) := Za1 (by kernel_rfl) (by kernel_rfl) rfl Yml
theorem Ynw : Rdb Tryz.prog 152 Z35 := Z6z (fun y => ⟨y.1, y.2.1, y.2.2.1, y.2.2.2⟩) (by kernel_rfl) (by kernel_rfl) (fun _ => rfl) (Z28 rdb3 (by kernel_rfl) (Z28 rdb3 (by kernel_rfl) (Z28 rdb3 (by kernel_rfl) (Z78 rdb3 (by kernel_rfl)))))
theorem Y9s : Rdb Tryz.prog 65 (Z1 Z35) := Za1 (by kernel_rfl) (by kernel_rfl) rfl Ynw
theorem rdb67 : Rdb Tryz.prog 67 Z26 := Z6z (fun y => ⟨y.1, y.2⟩) (by kernel_rfl) (by kernel_rfl) (fun _ => rfl) (Z28 Yap (by kernel_rfl) (Z78 Y9s (by kernel_rfl)))
theorem Yi1 : Rdb Tryz.prog 37 (Z1 (Z0 .i64)) := Za1 (by kernel_rfl) (by kernel_rfl) rfl rdb3
theorem rdb39 : Rdb Tryz.prog 39 Z0q := Z6z (fun y => ⟨y.1, y.2⟩) (by kernel_rfl) (by kernel_rfl) (fun _ => rfl) (Z28 rdb3 (by kernel_rfl) (Z78 Yi1 (by kernel_rfl)))
theorem Yd2 : Rdb Tryz.prog 85 Z4 := Z6z (fun y => ⟨y.1, y.2⟩) (by kernel_rfl) (by kernel_rfl) (fun _ => rfl) (Z28 Zet (by kernel_rfl) (Z78 Zet (by kernel_rfl)))
theorem rdb87 : Rdb Tryz.prog 87 (Z3 24 Z4) := Zt5 (by kernel_rfl) (by kernel_rfl) (by kernel_rfl) Yd2
theorem rdb44 : Rdb Tryz.prog 44 (Z3 24 Zd) := Zt5 (by kernel_rfl) (by kernel_rfl) (by kernel_rfl) Zet
theorem Ydl : ownKnob Tryz.prog.godebug = none := by kernel_rfl
theorem Y75 : laidOutB Tryz.prog = true := by kernel_rfl
set_option maxRecDepth 100000 in
theorem Ya6 (H : Type) (enc : TypeId × Value → H) (W : World) (base : Nat) (args : Array Value) (ds gs : List (DataW H)) (before : List MemPlace)
  (hval : ∀ (j : Nat) t v, Tryz.f18.params[j]? = some t → args[j]? = some v → Value.okWide Tryz.prog W .any base t v)
  (hW : DataW.Whole enc Tryz.prog Tryz.f18.params.toList Rows.spreadTracesSpec.vars false W args.toList ds gs before) :
  Calls Tryz.prog 18 args W fun e W' => ∃ v, e = .returned v ∧ Rows.spreadTracesSpec.post enc Tryz.prog Tryz.f18 false true false false W args v W' := by
 have hW' := hW
 obtain ⟨p, q, hA0, hV, hps, hfz, hnd⟩ := hW
 have hA : DataW.TrodAll enc Tryz.prog W 0 (fun _ => true) true [67, 39, 3, 87, 3, 3, 44] args.toList ds p := hA0
 obtain ⟨v0, vs0, d0, ds0, p0, q0, hargs, rfl, rfl, h0, r0⟩ := trodAll_cons hA
 obtain ⟨v1, vs1, d1, ds1, p1, q1, rfl, rfl, rfl, h1, r1⟩ := trodAll_cons r0
 obtain ⟨v2, vs2, d2, ds2, p2, q2, rfl, rfl, rfl, h2, r2⟩ := trodAll_cons r1
 obtain ⟨v3, vs3, d3, ds3, p3, q3, rfl, rfl, rfl, h3, r3⟩ := trodAll_cons r2
 obtain ⟨v4, vs4, d4, ds4, p4, q4, rfl, rfl, rfl, h4, r4⟩ := trodAll_cons r3
 obtain ⟨v5, vs5, d5, ds5, p5, q5, rfl, rfl, rfl, h5, r5⟩ := trodAll_cons r4
 obtain ⟨v6, vs6, d6, ds6, p6, q6, rfl, rfl, rfl, h6, r6⟩ := trodAll_cons r5
 obtain ⟨rfl, rfl, rfl⟩ := trodAll_nil r6
 obtain rfl : args = #[v0, v1, v2, v3, v4, v5, v6] := by cases args; simp_all
 obtain ⟨rfl, rfl⟩ := trodVars_none hV
 rw [Tryz.params18] at hval
 obtain ⟨x0, hx0⟩ := rdb67.val Z6q (hval 0 67 v0 rfl rfl) h0
 obtain ⟨x1, hx1⟩ := rdb39.val Z4x (hval 1 39 v1 rfl rfl) h1
 obtain ⟨x2, hx2⟩ := rdb3.val Zq (hval 2 3 v2 rfl rfl) h2
 obtain ⟨x3, hx3⟩ := rdb87.val Z00 (hval 3 87 v3 rfl rfl) h3
 obtain ⟨x4, hx4⟩ := rdb3.val Zq (hval 4 3 v4 rfl rfl) h4
 obtain ⟨x5, hx5⟩ := rdb3.val Zq (hval 5 3 v5 rfl rfl) h5
 obtain ⟨x6, hx6⟩ := rdb44.val Z0g (hval 6 44 v6 rfl rfl) h6
 have hlaw : Zje x0 x1 x2 x3 x4 x5 x6 = some true := Yil x0 x1 x2 x3 x4 x5 x6
 refine (Ydv x0 x1 x2 x3 x4 x5 x6 true hlaw W Ze [v0, v1, v2, v3, v4, v5, v6] (fun _ h => h.elim) ⟨hx0, hx1, hx2, hx3, hx4, hx5, hx6, trivial⟩).mono ?_
 rintro e W' ⟨v, rfl, hf, hB⟩
 have hv : v = .bool true := Z9s hB
 subst hv
 exact ⟨_, rfl, Ygk (tb := 4) Y75 (by kernel_rfl) rfl (by kernel_rfl) (by kernel_rfl) hW' rfl hf⟩
set_option maxRecDepth 100000 in
theorem Ygh (os : Os) (started : os.Started) (H : Type) (enc : TypeId × Value → H) :
  ReturnsInHanded {} Tryz.checked os 18 .any (Rows.spreadTracesSpec.pre6 enc Tryz.prog Tryz.f18 Rows.spreadTracesRow.domain false) (Rows.spreadTracesSpec.post enc Tryz.prog Tryz.f18 false true false false) := by
 refine returnsInHanded_of_change (C := Tryz.checked) Ydl started (by kernel_rfl) Tryz.func18
  (ChangeSpec.witness6 (enc := enc) (C := Tryz.checked) false ⟨#[], #[.agg #[(Value.slice none 0 0), (Value.slice none 0 0)], .agg #[(Value.int IntKind.i64 0), (Value.slice none 0 0)], Value.int IntKind.i64 0, .agg #[(Value.int IntKind.u64 0), (Value.int IntKind.u64 0), (Value.int IntKind.u64 0), (Value.int IntKind.u64 0), (Value.int IntKind.u64 0), (Value.int IntKind.u64 0), (Value.int IntKind.u64 0), (Value.int IntKind.u64 0), (Value.int IntKind.u64 0), (Value.int IntKind.u64 0), (Value.int IntKind.u64 0), (Value.int IntKind.u64 0), (Value.int IntKind.u64 0), (Value.int IntKind.u64 0), (Value.int IntKind.u64 0), (Value.int IntKind.u64 0), (Value.int IntKind.u64 0), (Value.int IntKind.u64 0), (Value.int IntKind.u64 0), (Value.int IntKind.u64 0), (Value.int IntKind.u64 0), (Value.int IntKind.u64 0), (Value.int IntKind.u64 0), (Value.int IntKind.u64 0), (Value.int IntKind.u64 0), (Value.int IntKind.u64 0), (Value.int IntKind.u64 0), (Value.int IntKind.u64 0), (Value.int IntKind.u64 0), (Value.int IntKind.u64 0), (Value.int IntKind.u64 0), (Value.int IntKind.u64 0), (Value.int IntKind.u64 0), (Value.int IntKind.u64 0), (Value.int IntKind.u64 0), (Value.int IntKind.u64 0), (Value.int IntKind.u64 0), (Value.int IntKind.u64 0), (Value.int IntKind.u64 0), (Value.int IntKind.u64 0), (Value.int IntKind.u64 0), (Value.int IntKind.u64 0), (Value.int IntKind.u64 0), (Value.int IntKind.u64 0), (Value.int IntKind.u64 0), (Value.int IntKind.u64 0), (Value.int IntKind.u64 0), (Value.int IntKind.u64 0), (Value.int IntKind.u64 0), (Value.int IntKind.u64 0), (Value.int IntKind.u64 0), (Value.int IntKind.u64 0), (Value.int IntKind.u64 0), (Value.int IntKind.u64 0), (Value.int IntKind.u64 0), (Value.int IntKind.u64 0), (Value.int IntKind.u64 0), (Value.int IntKind.u64 0), (Value.int IntKind.u64 0), (Value.int IntKind.u64 0), (Value.int IntKind.u64 0), (Value.int IntKind.u64 0), (Value.int IntKind.u64 0), (Value.int IntKind.u64 0), (Value.int IntKind.u64 0), (Value.int IntKind.u64 0), (Value.int IntKind.u64 0), (Value.int IntKind.u64 0), (Value.int IntKind.u64 0), (Value.int IntKind.u64 0), (Value.int IntKind.u64 0), (Value.int IntKind.u64 0), (Value.int IntKind.u64 0), (Value.int IntKind.u64 0), (Value.int IntKind.u64 0), (Value.int IntKind.u64 0), (Value.int IntKind.u64 0), (Value.int IntKind.u64 0), (Value.int IntKind.u64 0), (Value.int IntKind.u64 0), (Value.int IntKind.u64 0), (Value.int IntKind.u64 0), (Value.int IntKind.u64 0), (Value.int IntKind.u64 0), (Value.int IntKind.u64 0), (Value.int IntKind.u64 0), (Value.int IntKind.u64 0), (Value.int IntKind.u64 0), (Value.int IntKind.u64 0), (Value.int IntKind.u64 0), (Value.int IntKind.u64 0), (Value.int IntKind.u64 0), (Value.int IntKind.u64 0), (Value.int IntKind.u64 0), (Value.int IntKind.u64 0), (Value.int IntKind.u64 0)], Value.int IntKind.i64 0, Value.int IntKind.i64 0, .agg #[(Value.int IntKind.u64 0), (Value.int IntKind.u64 0), (Value.int IntKind.u64 0), (Value.int IntKind.u64 0), (Value.int IntKind.u64 0), (Value.int IntKind.u64 0), (Value.int IntKind.u64 0), (Value.int IntKind.u64 0), (Value.int IntKind.u64 0), (Value.int IntKind.u64 0), (Value.int IntKind.u64 0), (Value.int IntKind.u64 0), (Value.int IntKind.u64 0), (Value.int IntKind.u64 0), (Value.int IntKind.u64 0), (Value.int IntKind.u64 0), (Value.int IntKind.u64 0), (Value.int IntKind.u64 0), (Value.int IntKind.u64 0), (Value.int IntKind.u64 0), (Value.int IntKind.u64 0), (Value.int IntKind.u64 0), (Value.int IntKind.u64 0), (Value.int IntKind.u64 0), (Value.int IntKind.u64 0), (Value.int IntKind.u64 0), (Value.int IntKind.u64 0), (Value.int IntKind.u64 0), (Value.int IntKind.u64 0), (Value.int IntKind.u64 0), (Value.int IntKind.u64 0), (Value.int IntKind.u64 0), (Value.int IntKind.u64 0), (Value.int IntKind.u64 0), (Value.int IntKind.u64 0), (Value.int IntKind.u64 0), (Value.int IntKind.u64 0), (Value.int IntKind.u64 0), (Value.int IntKind.u64 0), (Value.int IntKind.u64 0), (Value.int IntKind.u64 0), (Value.int IntKind.u64 0), (Value.int IntKind.u64 0), (Value.int IntKind.u64 0), (Value.int IntKind.u64 0), (Value.int IntKind.u64 0), (Value.int IntKind.u64 0), (Value.int IntKind.u64 0)]], []⟩ 64 (by kernel_rfl) (by kernel_rfl) (by kernel_rfl) (by kernel_rfl)) ?_
 intro W base args ds gs before hval hW _ _
 exact Ya6 H enc W base args ds gs before hval hW
theorem spreadTraces_holds : Rows.SpreadTracesSaid :=
 OpenClaim.holds_of_wide 18 Tryz.f18 rfl rfl rfl rfl rfl rfl rfl ⟨rfl, rfl, rfl, rfl, rfl⟩ rfl rfl rfl rfl rfl (by kernel_rfl) Tryz.func18 Y7j
  (of_decide_eq_true (by kernel_rfl)) (by unfold Func.isWrapper; first | (rw [if_pos (by decide +kernel)]; kernel_rfl) | (rw [if_neg (by decide +kernel)]; exact ⟨rfl, rfl⟩))
  (fun os started H enc _ => Ygh os started H enc)
end Go.Proofs.YtknpgojdkobgjaaGreat.W
