/- Whatever the arguments: SpreadEach returns true and leaves its arguments as they were. No condition. -/
import Derived.Test.YtknpgojdkobgjaaGreatRowSCF
import Derived.Test.YtknpgojdkobgjaaGreatRows
import Derived.Test.YtknpgojdkobgjaaGreatP1
set_option linter.unusedVariables false
set_option linter.unusedSimpArgs false
namespace Go.Proofs.YtknpgojdkobgjaaGreat.W
open Go Go.Wb
open Go.ChangeShapes Go.WideShapes Go.ChangeAt Go.RowKit
theorem Zuj : Rdb Tryz.prog 40 Z0n := Yeu (by kernel_rfl)
theorem rdb3 : Rdb Tryz.prog 3 (Z0 .i64) := Zy9 (by kernel_rfl)
theorem Y6h : Rdb Tryz.prog 4 Z5 := Y8d (by kernel_rfl)
theorem Zgd : Rdb Tryz.prog 42 Zd := Z6w (fun y => ⟨y.1, y.2⟩) (by kernel_rfl) (by kernel_rfl) (fun _ => rfl) (Z25 Zuj (by kernel_rfl) (Z72 Zuj (by kernel_rfl)))
theorem Zx2 : Rdb Tryz.prog 119 Z2e := Z6w (fun y => ⟨y.1, y.2.1, y.2.2.1, y.2.2.2⟩) (by kernel_rfl) (by kernel_rfl) (fun _ => rfl) (Z25 rdb3 (by kernel_rfl) (Z25 Y6h (by kernel_rfl) (Z25 Zgd (by kernel_rfl) (Z72 Zgd (by kernel_rfl)))))
theorem Yi2 : Rdb Tryz.prog 58 (Z1 Z2e) := Z9j (by kernel_rfl) (by kernel_rfl) rfl Zx2
theorem Ygt : Rdb Tryz.prog 121 Z9 := Z6w (fun y => ⟨y.1, y.2.1, y.2.2.1, y.2.2.2.1, y.2.2.2.2.1, y.2.2.2.2.2⟩) (by kernel_rfl) (by kernel_rfl) (fun _ => rfl) (Z25 rdb3 (by kernel_rfl) (Z25 rdb3 (by kernel_rfl) (Z25 rdb3 (by kernel_rfl) (Z25 rdb3 (by kernel_rfl) (Z25 rdb3 (by kernel_rfl) (Z72 Zx2 (by kernel_rfl)))))))
theorem Zyv : Rdb Tryz.prog 122 (Z1 Z9) := Z9j (by kernel_rfl) (by kernel_rfl) rfl Ygt
theorem Yef : Rdb Tryz.prog 124 Z1e := Z6w (fun y => ⟨y.1, y.2.1, y.2.2.1, y.2.2.2.1, y.2.2.2.2⟩) (by kernel_rfl) (by kernel_rfl) (fun _ => rfl) (Z25 rdb3 (by kernel_rfl) (Z25 rdb3 (by kernel_rfl) (Z25 Zgd (by kernel_rfl) (Z25 Zgd (by kernel_rfl) (Z72 Zyv (by kernel_rfl))))))
theorem Ygb : Rdb Tryz.prog 59 (Z1 Z1e) := Z9j (by kernel_rfl) (by kernel_rfl) rfl Yef
theorem Ydr : Rdb Tryz.prog 61 Z16 := Z6w (fun y => ⟨y.1, y.2.1, y.2.2.1, y.2.2.2.1, y.2.2.2.2.1, y.2.2.2.2.2.1, y.2.2.2.2.2.2⟩) (by kernel_rfl) (by kernel_rfl) (fun _ => rfl) (Z25 Zuj (by kernel_rfl) (Z25 rdb3 (by kernel_rfl) (Z25 rdb3 (by kernel_rfl) (Z25 rdb3 (by kernel_rfl) (Z25 rdb3 (by kernel_rfl) (Z25 Yi2 (by kernel_rfl) (Z72 Ygb (by kernel_rfl))))))))
theorem Yd4 : Rdb Tryz.prog 22 (Z1 Z16) := Z9j (by kernel_rfl) (by kernel_rfl) rfl Ydr
theorem Yme : Rdb Tryz.prog 23 (Z3 4 (Z1 Z16)) := Zzx (by kernel_rfl) (by kernel_rfl) (by kernel_rfl) Yd4
theorem Y8j : Rdb Tryz.prog 226 Z1y := Z6w (fun y => ⟨y.1, y.2.1, y.2.2.1, y.2.2.2⟩) (by kernel_rfl) (by kernel_rfl) (fun _ => rfl) (Z25 rdb3 (by kernel_rfl) (Z25 rdb3 (by kernel_rfl) (Z25 rdb3 (by kernel_rfl) (Z72 Zyv (by kernel_rfl)))))
theorem Ygm : Rdb Tryz.prog 162 (Z1 Z1y) := Z9j (by kernel_rfl) (by kernel_rfl) rfl Y8j
theorem Yks : Rdb Tryz.prog 164 Zz := Z6w (fun y => ⟨y.1, y.2.1, y.2.2⟩) (by kernel_rfl) (by kernel_rfl) (fun _ => rfl) (Z25 rdb3 (by kernel_rfl) (Z25 rdb3 (by kernel_rfl) (Z72 Ygm (by kernel_rfl))))
theorem Yl6 : Rdb Tryz.prog 24 (Z1 Zz) := Z9j (by kernel_rfl) (by kernel_rfl) rfl Yks
theorem Ybz : Rdb Tryz.prog 26 Z0b := Z6w (fun y => ⟨y.1, y.2⟩) (by kernel_rfl) (by kernel_rfl) (fun _ => rfl) (Z25 Yme (by kernel_rfl) (Z72 Yl6 (by kernel_rfl)))
theorem Yni : Rdb Tryz.prog 64 (Z1 Z0b) := Z9j (by kernel_rfl) (by kernel_rfl) rfl Ybz
theorem Ylm : Rdb Tryz.prog 152 Z36 := Z6w (fun y => ⟨y.1, y.2.1, y.2.2.1, y.2.2.2⟩) (by kernel_rfl) (by kernel_rfl) (fun _ => rfl) (Z25 rdb3 (by kernel_rfl) (Z25 rdb3 (by kernel_rfl) (Z25 rdb3 (by kernel_rfl) (Z72 rdb3 (by kernel_rfl)))))
theorem Yax : Rdb Tryz.prog 65 (Z1 Z36) := Z9j (by kernel_rfl) (by kernel_rfl) rfl Ylm
theorem rdb67 : Rdb Tryz.prog 67 Z28 := Z6w (fun y => ⟨y.1, y.2⟩) (by kernel_rfl) (by kernel_rfl) (fun _ => rfl) (Z25 Yni (by kernel_rfl) (Z72 Yax (by kernel_rfl)))
theorem Y73 : Rdb Tryz.prog 37 (Z1 (Z0 .i64)) := Z9j (by kernel_rfl) (by kernel_rfl) rfl rdb3
theorem rdb39 : Rdb Tryz.prog 39 Z0q := Z6w (fun y => ⟨y.1, y.2⟩) (by kernel_rfl) (by kernel_rfl) (fun _ => rfl) (Z25 rdb3 (by kernel_rfl) (Z72 Y73 (by kernel_rfl)))
theorem Yi3 : Rdb Tryz.prog 85 Z4 := Z6w (fun y => ⟨y.1, y.2⟩) (by kernel_rfl) (by kernel_rfl) (fun _ => rfl) (Z25 Zgd (by kernel_rfl) (Z72 Zgd (by kernel_rfl)))
theorem rdb87 : Rdb Tryz.prog 87 (Z3 24 Z4) := Zzx (by kernel_rfl) (by kernel_rfl) (by kernel_rfl) Yi3
theorem Ya3 : ownKnob Tryz.prog.godebug = none := by kernel_rfl
theorem Ykj : laidOutB Tryz.prog = true := by kernel_rfl
set_option maxRecDepth 100000 in
theorem Yan (H : Type) (enc : TypeId × Value → H) (W : World) (base : Nat) (args : Array Value) (ds gs : List (DataW H)) (before : List MemPlace)
  (hval : ∀ (j : Nat) t v, Tryz.f19.params[j]? = some t → args[j]? = some v → Value.okWide Tryz.prog W .any base t v)
  (hW : DataW.Whole enc Tryz.prog Tryz.f19.params.toList Rows.spreadEachSpec.vars false W args.toList ds gs before) :
  Calls Tryz.prog 19 args W fun e W' => ∃ v, e = .returned v ∧ Rows.spreadEachSpec.post enc Tryz.prog Tryz.f19 false true false false W args v W' := by
 have hW' := hW
 obtain ⟨p, q, hA0, hV, hps, hfz, hnd⟩ := hW
 have hA : DataW.TrodAll enc Tryz.prog W 0 (fun _ => true) true [67, 39, 3, 87, 3, 3] args.toList ds p := hA0
 obtain ⟨v0, vs0, d0, ds0, p0, q0, hargs, rfl, rfl, h0, r0⟩ := trodAll_cons hA
 obtain ⟨v1, vs1, d1, ds1, p1, q1, rfl, rfl, rfl, h1, r1⟩ := trodAll_cons r0
 obtain ⟨v2, vs2, d2, ds2, p2, q2, rfl, rfl, rfl, h2, r2⟩ := trodAll_cons r1
 obtain ⟨v3, vs3, d3, ds3, p3, q3, rfl, rfl, rfl, h3, r3⟩ := trodAll_cons r2
 obtain ⟨v4, vs4, d4, ds4, p4, q4, rfl, rfl, rfl, h4, r4⟩ := trodAll_cons r3
 obtain ⟨v5, vs5, d5, ds5, p5, q5, rfl, rfl, rfl, h5, r5⟩ := trodAll_cons r4
 obtain ⟨rfl, rfl, rfl⟩ := trodAll_nil r5
 obtain rfl : args = #[v0, v1, v2, v3, v4, v5] := by cases args; simp_all
 obtain ⟨rfl, rfl⟩ := trodVars_none hV
 rw [Tryz.params19] at hval
 obtain ⟨x0, hx0⟩ := rdb67.val Z65 (hval 0 67 v0 rfl rfl) h0
 obtain ⟨x1, hx1⟩ := rdb39.val Z4n (hval 1 39 v1 rfl rfl) h1
 obtain ⟨x2, hx2⟩ := rdb3.val Zo (hval 2 3 v2 rfl rfl) h2
 obtain ⟨x3, hx3⟩ := rdb87.val Z00 (hval 3 87 v3 rfl rfl) h3
 obtain ⟨x4, hx4⟩ := rdb3.val Zo (hval 4 3 v4 rfl rfl) h4
 obtain ⟨x5, hx5⟩ := rdb3.val Zo (hval 5 3 v5 rfl rfl) h5
 have hlaw : Zlg x0 x1 x2 x3 x4 x5 = some true := Yd5 x0 x1 x2 x3 x4 x5
 refine (Yj1 x0 x1 x2 x3 x4 x5 true hlaw W Ze [v0, v1, v2, v3, v4, v5] (fun _ h => h.elim) ⟨hx0, hx1, hx2, hx3, hx4, hx5, trivial⟩).mono ?_
 rintro e W' ⟨v, rfl, hf, hB⟩
 have hv : v = .bool true := Zda hB
 subst hv
 exact ⟨_, rfl, Ykf (tb := 4) Ykj (by kernel_rfl) rfl (by kernel_rfl) (by kernel_rfl) hW' rfl hf⟩
set_option maxRecDepth 100000 in
theorem Y75 (os : Os) (started : os.Started) (H : Type) (enc : TypeId × Value → H) :
  ReturnsInHanded {} Tryz.checked os 19 .any (Rows.spreadEachSpec.pre6 enc Tryz.prog Tryz.f19 Rows.spreadEachRow.domain false) (Rows.spreadEachSpec.post enc Tryz.prog Tryz.f19 false true false false) := by
 refine returnsInHanded_of_change (C := Tryz.checked) Ya3 started (by kernel_rfl) Tryz.func19
  (ChangeSpec.witness6 (enc := enc) (C := Tryz.checked) false ⟨#[], #[.agg #[(Value.slice none 0 0), (Value.slice none 0 0)], .agg #[(Value.int IntKind.i64 0), (Value.slice none 0 0)], Value.int IntKind.i64 0, .agg #[(Value.int IntKind.u64 0), (Value.int IntKind.u64 0), (Value.int IntKind.u64 0), (Value.int IntKind.u64 0), (Value.int IntKind.u64 0), (Value.int IntKind.u64 0), (Value.int IntKind.u64 0), (Value.int IntKind.u64 0), (Value.int IntKind.u64 0), (Value.int IntKind.u64 0), (Value.int IntKind.u64 0), (Value.int IntKind.u64 0), (Value.int IntKind.u64 0), (Value.int IntKind.u64 0), (Value.int IntKind.u64 0), (Value.int IntKind.u64 0), (Value.int IntKind.u64 0), (Value.int IntKind.u64 0), (Value.int IntKind.u64 0), (Value.int IntKind.u64 0), (Value.int IntKind.u64 0), (Value.int IntKind.u64 0), (Value.int IntKind.u64 0), (Value.int IntKind.u64 0), (Value.int IntKind.u64 0), (Value.int IntKind.u64 0), (Value.int IntKind.u64 0), (Value.int IntKind.u64 0), (Value.int IntKind.u64 0), (Value.int IntKind.u64 0), (Value.int IntKind.u64 0), (Value.int IntKind.u64 0), (Value.int IntKind.u64 0), (Value.int IntKind.u64 0), (Value.int IntKind.u64 0), (Value.int IntKind.u64 0), (Value.int IntKind.u64 0), (Value.int IntKind.u64 0), (Value.int IntKind.u64 0), (Value.int IntKind.u64 0), (Value.int IntKind.u64 0), (Value.int IntKind.u64 0), (Value.int IntKind.u64 0), (Value.int IntKind.u64 0), (Value.int IntKind.u64 0), (Value.int IntKind.u64 0), (Value.int IntKind.u64 0), (Value.int IntKind.u64 0), (Value.int IntKind.u64 0), (Value.int IntKind.u64 0), (Value.int IntKind.u64 0), (Value.int IntKind.u64 0), (Value.int IntKind.u64 0), (Value.int IntKind.u64 0), (Value.int IntKind.u64 0), (Value.int IntKind.u64 0), (Value.int IntKind.u64 0), (Value.int IntKind.u64 0), (Value.int IntKind.u64 0), (Value.int IntKind.u64 0), (Value.int IntKind.u64 0), (Value.int IntKind.u64 0), (Value.int IntKind.u64 0), (Value.int IntKind.u64 0), (Value.int IntKind.u64 0), (Value.int IntKind.u64 0), (Value.int IntKind.u64 0), (Value.int IntKind.u64 0), (Value.int IntKind.u64 0), (Value.int IntKind.u64 0), (Value.int IntKind.u64 0), (Value.int IntKind.u64 0), (Value.int IntKind.u64 0), (Value.int IntKind.u64 0), (Value.int IntKind.u64 0), (Value.int IntKind.u64 0), (Value.int IntKind.u64 0), (Value.int IntKind.u64 0), (Value.int IntKind.u64 0), (Value.int IntKind.u64 0), (Value.int IntKind.u64 0), (Value.int IntKind.u64 0), (Value.int IntKind.u64 0), (Value.int IntKind.u64 0), (Value.int IntKind.u64 0), (Value.int IntKind.u64 0), (Value.int IntKind.u64 0), (Value.int IntKind.u64 0), (Value.int IntKind.u64 0), (Value.int IntKind.u64 0), (Value.int IntKind.u64 0), (Value.int IntKind.u64 0), (Value.int IntKind.u64 0), (Value.int IntKind.u64 0), (Value.int IntKind.u64 0), (Value.int IntKind.u64 0)], Value.int IntKind.i64 0, Value.int IntKind.i64 0], []⟩ 64 (by kernel_rfl) (by kernel_rfl) (by kernel_rfl) (by kernel_rfl)) ?_
 intro W base args ds gs before hval hW _ _
 exact Yan H enc W base args ds gs before hval hW
theorem spreadEach_holds : Rows.SpreadEachSaid :=
 OpenClaim.holds_of_wide 19 Tryz.f19 rfl rfl rfl rfl rfl rfl rfl ⟨rfl, rfl, rfl, rfl, rfl⟩ rfl rfl rfl rfl rfl (by kernel_rfl) Tryz.func19 Yma
  (of_decide_eq_true (by kernel_rfl)) (by unfold Func.isWrapper; first | (rw [if_pos (by decide +kernel)]; kernel_rfl) | (rw [if_neg (by decide +kernel)]; exact ⟨rfl, rfl⟩))
  (fun os started H enc _ => Y75 os started H enc)
end Go.Proofs.YtknpgojdkobgjaaGreat.W
