/- A part of the proof. -/
import Derived.Test.YtknpgojdkobgjaaG0
set_option linter.unusedVariables false
set_option maxRecDepth 4000
set_option linter.unusedSimpArgs false
namespace Go.Proofs.Ytknpgojdkobgjaa.W
open Go Go.Wb
theorem Zr0:Ent Try.prog 108:=Ent.mk Try.func108 rfl rfl
theorem Zr3:Ent Try.prog 109:=Ent.mk Try.func109 rfl rfl
theorem Znf:Ent Try.prog 112:=Ent.mk Try.func112 rfl rfl
theorem Zpk:Ent Try.prog 110:=Ent.mk Try.func110 rfl rfl
theorem Zp7:Ent Try.prog 114:=Ent.mk Try.func114 rfl rfl
theorem Zs9:Ent Try.prog 115:=Ent.mk Try.func115 rfl rfl
theorem Zdg:Ent Try.prog 139:=Ent.mk Try.func139 rfl rfl
theorem Zt4:Ent Try.prog 149:=Ent.mk Try.func149 rfl rfl
theorem Ztc:Ent Try.prog 146:=Ent.mk Try.func146 rfl rfl
theorem Zg5:Ent Try.prog 142:=Ent.mk Try.func142 rfl rfl
def Z8k (s1:(List Action)):Option (List Action):=
 (Z9s s1 Zbz).bind fun x2=>(Z4a s1).bind fun x4=>(Z9r x4 (fun x=>Z7c x x2)).bind fun x6=>(Z8g x6 Z3x).bind fun l8=>some l8
theorem Zl0:Q1 Try.prog 78 (rd (Z2 Z3)) (rd (Z2 Z3)) Z8k:=fun s1 r h=>I0 Try.func78 rfl Try.ntmps78 rfl fun w H=>by
 unfold Z8k at h
 refine SR<|Ac (Z0d (A:=rd (Z2 Z3) []) rfl rfl Z1n) rfl<|Nl<|sq ?_
 obtain ⟨x2,hx2,h⟩:=Za h
 refine Rg<|Md rfl<|Ac (Z0i (xs:=[.tmp 5,.func 109]) (Zsa _ _ _ hx2) Zr0 rfl rfl ⟨vt rfl,vf1 Zr3 Zll,trivial⟩) rfl<|Cv rfl (Z05 4 rfl rfl zr4) fun g3=>Zs ty4 4 rfl<|Nl<|sq<|AW.freezeB 3 4 rfl rfl rfl ?_
 obtain ⟨x4,hx4,x6,hx6,h⟩:=bs2 h
 refine Rg<|Md rfl<|Cv rfl (Z13 1001 (xs:=[.tmp 7]) (Zes _ _ hx4) Zcx rfl rfl ⟨vt rfl,trivial⟩ rfl) fun v5=>Ac (Z3s (cs:=[.tmp 3]) (CAs:=[rp Z5 x2]) (fun x=>Z7c x x2) rfl rfl Znf ⟨vt rfl,trivial⟩ (fun x y h=>Zmq _ _ y h)) rfl<|Cv rfl (Z13 1001 (xs:=[.tmp 8,.tmp 9]) (Zl4 _ _ _ _ hx6) Zpk rfl rfl ⟨vt rfl,vt rfl,trivial⟩ rfl) fun v7=>Aw rfl<|Nl<|sq ?_
 obtain ⟨l8,hl8,h⟩:=Za h
 refine Rg<|Mw rfl<|Cv rfl (Z13 1001 (xs:=[.tmp 11,.func 115]) (Zkn _ _ _ _ hl8) Zp7 rfl rfl ⟨vt rfl,vf2 Zs9 Zmj,trivial⟩ rfl) fun _u=>Nl<|SR<|Mw rfl<|Aw rfl<|Nl<|AW.freezes [2,4,10,11,13] 1001 rfl ⟨rfl,rfl,rfl,rfl,rfl,trivial⟩ rfl<|rt ?_
 cases h;exact Z9 Try.results78 rfl (Zg rfl)
def Z9m (a1:Action):Option Int:=
 (bif (decide (a1.Port=4294967293)) then some a1.Max else some 0)
theorem Zr1:Q1 Try.prog 106 (rd Z3) (rd (Z0 .i64)) Z9m:=fun a1 r h=>I0 Try.func106 rfl Try.ntmps106 rfl fun w H=>by
 unfold Z9m at h
 refine SR<|Cv rfl (Z00 2 rfl rfl (vt rfl)) fun g2=>Ak rfl<|Nl<|sq<|SR<|Zo Zd8 Zk1 rfl<|Ld Zl 2 rfl<|Ac (Z0l rfl rfl (vt rfl) (vk rfl)) rfl<|Nl<|Cq rfl h (fun h=>?_) (fun h=>?_)
 ·refine SR<|Zo Zit Zo0 rfl<|Ld Zl 2 rfl<|As rfl<|Nl<|rt ?_
  cases h;exact Z9 Try.results106 rfl (Zg rfl)
 ·refine sk<|SR<|Ak rfl<|Nl<|rt ?_
  cases h;exact Z9 Try.results106 rfl (Zg rfl)
def Zb7:Option Z2x:=
 some (Vector.replicate 24 Z3a)
theorem Zny:Q0 Try.prog 46 (rd (Zm 24 Z0j)) Zb7:=fun r h=>I0 Try.func46 rfl Try.ntmps46 rfl fun w H=>by
 unfold Zb7 at h
 refine SR<|Cv rfl (Z05 1 rfl rfl Z4f) fun g1=>Nl<|SR<|Ac (Z0s (ps:=[]) (x:=(Vector.replicate 24 Z3a)) rfl rfl rfl (by kernel_rfl) Z4f rfl) rfl<|Zs Z0h 1 rfl<|Nl<|rt ?_
 cases h;exact Z9 Try.results46 rfl (Z09 rfl (i:=1) rfl Z0h)
def Z4o (x1:Int):Option Bool:=
 some ((decide (x1≥0))&&(decide (x1<24)))
theorem Zcu:Q1 Try.prog 139 (rd (Z0 .i64)) (rd Z5) Z4o:=fun x1 r h=>I0 Try.func139 rfl Try.ntmps139 rfl fun w H=>by
 unfold Z4o at h
 refine SR<|Ab rfl<|Nl<|SR<|Md rfl<|Ac (Z33 rfl rfl (vt rfl) (vk rfl)) rfl<|Md rfl<|Gd rfl (fun hq=>Ze (A:=rd (Z0 .i64) x1) rfl rfl (vt rfl))<|Gd rfl (fun hq=>Zh rfl rfl (Z8 rfl hq) (vk rfl))<|Ac (Z0y rfl rfl (vt rfl) (vt rfl)) rfl<|As rfl<|Nl<|rt ?_
 cases h;exact Z9 Try.results139 rfl (Zg rfl)
def Z9n:Option Zoe:=
 some (Vector.set (Vector.set (Vector.set (Vector.set (Vector.set (Vector.set (Vector.set (Vector.set (Vector.set (Vector.set (Vector.set (Vector.set (Vector.set (Vector.set (Vector.set (Vector.set (Vector.set (Vector.set (Vector.set (Vector.set (Vector.set (Vector.set (Vector.set (Vector.set (Vector.replicate 24 Za8) 0 (⟨{data:= #[105,110,95,112,111,114,116]},0,32,false⟩:field_row) (by decide)) 1 (⟨{data:= #[109,101,116,97,100,97,116,97]},2,64,true⟩:field_row) (by decide)) 2 (⟨{data:= #[101,116,104,95,100,115,116]},3,48,true⟩:field_row) (by decide)) 3 (⟨{data:= #[101,116,104,95,115,114,99]},4,48,true⟩:field_row) (by decide)) 4 (⟨{data:= #[101,116,104,95,116,121,112,101]},5,16,false⟩:field_row) (by decide)) 5 (⟨{data:= #[118,108,97,110,95,118,105,100]},6,13,true⟩:field_row) (by decide)) 6 (⟨{data:= #[118,108,97,110,95,112,99,112]},7,3,false⟩:field_row) (by decide)) 7 (⟨{data:= #[105,112,95,100,115,99,112]},8,6,false⟩:field_row) (by decide)) 8 (⟨{data:= #[105,112,95,101,99,110]},9,2,false⟩:field_row) (by decide)) 9 (⟨{data:= #[105,112,95,112,114,111,116,111]},10,8,false⟩:field_row) (by decide)) 10 (⟨{data:= #[105,112,118,52,95,115,114,99]},11,32,true⟩:field_row) (by decide)) 11 (⟨{data:= #[105,112,118,52,95,100,115,116]},12,32,true⟩:field_row) (by decide)) 12 (⟨{data:= #[116,99,112,95,115,114,99]},13,16,false⟩:field_row) (by decide)) 13 (⟨{data:= #[116,99,112,95,100,115,116]},14,16,false⟩:field_row) (by decide)) 14 (⟨{data:= #[117,100,112,95,115,114,99]},15,16,false⟩:field_row) (by decide)) 15 (⟨{data:= #[117,100,112,95,100,115,116]},16,16,false⟩:field_row) (by decide)) 16 (⟨{data:= #[105,99,109,112,118,52,95,116,121,112,101]},19,8,false⟩:field_row) (by decide)) 17 (⟨{data:= #[105,99,109,112,118,52,95,99,111,100,101]},20,8,false⟩:field_row) (by decide)) 18 (⟨{data:= #[97,114,112,95,111,112]},21,16,false⟩:field_row) (by decide)) 19 (⟨{data:= #[97,114,112,95,115,112,97]},22,32,true⟩:field_row) (by decide)) 20 (⟨{data:= #[97,114,112,95,116,112,97]},23,32,true⟩:field_row) (by decide)) 21 (⟨{data:= #[105,112,118,54,95,115,114,99]},26,128,true⟩:field_row) (by decide)) 22 (⟨{data:= #[105,112,118,54,95,100,115,116]},27,128,true⟩:field_row) (by decide)) 23 (⟨{data:= #[109,112,108,115,95,108,97,98,101,108]},34,20,false⟩:field_row) (by decide))
theorem Zo2:Q0 Try.prog 149 (rd (Zm 24 Z0g)) Z9n:=fun r h=>I0 Try.func149 rfl Try.ntmps149 rfl fun w H=>by
 unfold Z9n at h
 refine SR<|Cv rfl (Z05 1 rfl rfl Zg7) fun g1=>Nl<|SR<|Ac (Z0s (ps:=[(0,.const (Value.string {data:= #[105,110,95,112,111,114,116]})),(1,.const (Value.int IntKind.i64 0)),(2,.const (Value.int IntKind.i64 32)),(3,.const (Value.bool false))]) (x:=(⟨{data:= #[105,110,95,112,111,114,116]},0,32,false⟩:field_row)) rfl rfl rfl (by kernel_rfl) Z0w ⟨_,_,Z0z,_,by kernel_rfl,(vs (by decide)),_,_,lfield_row_1,_,by kernel_rfl,(vk rfl),_,_,Z0v,_,by kernel_rfl,(vk rfl),_,_,Z12,_,by kernel_rfl,vb,rfl⟩) rfl<|Ac (Z0s (ps:=[(0,.const (Value.string {data:= #[109,101,116,97,100,97,116,97]})),(1,.const (Value.int IntKind.i64 2)),(2,.const (Value.int IntKind.i64 64)),(3,.const (Value.bool true))]) (x:=(⟨{data:= #[109,101,116,97,100,97,116,97]},2,64,true⟩:field_row)) rfl rfl rfl (by kernel_rfl) Z0w ⟨_,_,Z0z,_,by kernel_rfl,(vs (by decide)),_,_,lfield_row_1,_,by kernel_rfl,(vk rfl),_,_,Z0v,_,by kernel_rfl,(vk rfl),_,_,Z12,_,by kernel_rfl,vb,rfl⟩) rfl<|Ac (Z0s (ps:=[(0,.const (Value.string {data:= #[101,116,104,95,100,115,116]})),(1,.const (Value.int IntKind.i64 3)),(2,.const (Value.int IntKind.i64 48)),(3,.const (Value.bool true))]) (x:=(⟨{data:= #[101,116,104,95,100,115,116]},3,48,true⟩:field_row)) rfl rfl rfl (by kernel_rfl) Z0w ⟨_,_,Z0z,_,by kernel_rfl,(vs (by decide)),_,_,lfield_row_1,_,by kernel_rfl,(vk rfl),_,_,Z0v,_,by kernel_rfl,(vk rfl),_,_,Z12,_,by kernel_rfl,vb,rfl⟩) rfl<|Ac (Z0s (ps:=[(0,.const (Value.string {data:= #[101,116,104,95,115,114,99]})),(1,.const (Value.int IntKind.i64 4)),(2,.const (Value.int IntKind.i64 48)),(3,.const (Value.bool true))]) (x:=(⟨{data:= #[101,116,104,95,115,114,99]},4,48,true⟩:field_row)) rfl rfl rfl (by kernel_rfl) Z0w ⟨_,_,Z0z,_,by kernel_rfl,(vs (by decide)),_,_,lfield_row_1,_,by kernel_rfl,(vk rfl),_,_,Z0v,_,by kernel_rfl,(vk rfl),_,_,Z12,_,by kernel_rfl,vb,rfl⟩) rfl<|Ac (Z0s (ps:=[(0,.const (Value.string {data:= #[101,116,104,95,116,121,112,101]})),(1,.const (Value.int IntKind.i64 5)),(2,.const (Value.int IntKind.i64 16)),(3,.const (Value.bool false))]) (x:=(⟨{data:= #[101,116,104,95,116,121,112,101]},5,16,false⟩:field_row)) rfl rfl rfl (by kernel_rfl) Z0w ⟨_,_,Z0z,_,by kernel_rfl,(vs (by decide)),_,_,lfield_row_1,_,by kernel_rfl,(vk rfl),_,_,Z0v,_,by kernel_rfl,(vk rfl),_,_,Z12,_,by kernel_rfl,vb,rfl⟩) rfl<|Ac (Z0s (ps:=[(0,.const (Value.string {data:= #[118,108,97,110,95,118,105,100]})),(1,.const (Value.int IntKind.i64 6)),(2,.const (Value.int IntKind.i64 13)),(3,.const (Value.bool true))]) (x:=(⟨{data:= #[118,108,97,110,95,118,105,100]},6,13,true⟩:field_row)) rfl rfl rfl (by kernel_rfl) Z0w ⟨_,_,Z0z,_,by kernel_rfl,(vs (by decide)),_,_,lfield_row_1,_,by kernel_rfl,(vk rfl),_,_,Z0v,_,by kernel_rfl,(vk rfl),_,_,Z12,_,by kernel_rfl,vb,rfl⟩) rfl ?_
 refine Ac (Z0s (ps:=[(0,.const (Value.string {data:= #[118,108,97,110,95,112,99,112]})),(1,.const (Value.int IntKind.i64 7)),(2,.const (Value.int IntKind.i64 3)),(3,.const (Value.bool false))]) (x:=(⟨{data:= #[118,108,97,110,95,112,99,112]},7,3,false⟩:field_row)) rfl rfl rfl (by kernel_rfl) Z0w ⟨_,_,Z0z,_,by kernel_rfl,(vs (by decide)),_,_,lfield_row_1,_,by kernel_rfl,(vk rfl),_,_,Z0v,_,by kernel_rfl,(vk rfl),_,_,Z12,_,by kernel_rfl,vb,rfl⟩) rfl<|Ac (Z0s (ps:=[(0,.const (Value.string {data:= #[105,112,95,100,115,99,112]})),(1,.const (Value.int IntKind.i64 8)),(2,.const (Value.int IntKind.i64 6)),(3,.const (Value.bool false))]) (x:=(⟨{data:= #[105,112,95,100,115,99,112]},8,6,false⟩:field_row)) rfl rfl rfl (by kernel_rfl) Z0w ⟨_,_,Z0z,_,by kernel_rfl,(vs (by decide)),_,_,lfield_row_1,_,by kernel_rfl,(vk rfl),_,_,Z0v,_,by kernel_rfl,(vk rfl),_,_,Z12,_,by kernel_rfl,vb,rfl⟩) rfl<|Ac (Z0s (ps:=[(0,.const (Value.string {data:= #[105,112,95,101,99,110]})),(1,.const (Value.int IntKind.i64 9)),(2,.const (Value.int IntKind.i64 2)),(3,.const (Value.bool false))]) (x:=(⟨{data:= #[105,112,95,101,99,110]},9,2,false⟩:field_row)) rfl rfl rfl (by kernel_rfl) Z0w ⟨_,_,Z0z,_,by kernel_rfl,(vs (by decide)),_,_,lfield_row_1,_,by kernel_rfl,(vk rfl),_,_,Z0v,_,by kernel_rfl,(vk rfl),_,_,Z12,_,by kernel_rfl,vb,rfl⟩) rfl<|Ac (Z0s (ps:=[(0,.const (Value.string {data:= #[105,112,95,112,114,111,116,111]})),(1,.const (Value.int IntKind.i64 10)),(2,.const (Value.int IntKind.i64 8)),(3,.const (Value.bool false))]) (x:=(⟨{data:= #[105,112,95,112,114,111,116,111]},10,8,false⟩:field_row)) rfl rfl rfl (by kernel_rfl) Z0w ⟨_,_,Z0z,_,by kernel_rfl,(vs (by decide)),_,_,lfield_row_1,_,by kernel_rfl,(vk rfl),_,_,Z0v,_,by kernel_rfl,(vk rfl),_,_,Z12,_,by kernel_rfl,vb,rfl⟩) rfl<|Ac (Z0s (ps:=[(0,.const (Value.string {data:= #[105,112,118,52,95,115,114,99]})),(1,.const (Value.int IntKind.i64 11)),(2,.const (Value.int IntKind.i64 32)),(3,.const (Value.bool true))]) (x:=(⟨{data:= #[105,112,118,52,95,115,114,99]},11,32,true⟩:field_row)) rfl rfl rfl (by kernel_rfl) Z0w ⟨_,_,Z0z,_,by kernel_rfl,(vs (by decide)),_,_,lfield_row_1,_,by kernel_rfl,(vk rfl),_,_,Z0v,_,by kernel_rfl,(vk rfl),_,_,Z12,_,by kernel_rfl,vb,rfl⟩) rfl<|Ac (Z0s (ps:=[(0,.const (Value.string {data:= #[105,112,118,52,95,100,115,116]})),(1,.const (Value.int IntKind.i64 12)),(2,.const (Value.int IntKind.i64 32)),(3,.const (Value.bool true))]) (x:=(⟨{data:= #[105,112,118,52,95,100,115,116]},12,32,true⟩:field_row)) rfl rfl rfl (by kernel_rfl) Z0w ⟨_,_,Z0z,_,by kernel_rfl,(vs (by decide)),_,_,lfield_row_1,_,by kernel_rfl,(vk rfl),_,_,Z0v,_,by kernel_rfl,(vk rfl),_,_,Z12,_,by kernel_rfl,vb,rfl⟩) rfl ?_
 refine Ac (Z0s (ps:=[(0,.const (Value.string {data:= #[116,99,112,95,115,114,99]})),(1,.const (Value.int IntKind.i64 13)),(2,.const (Value.int IntKind.i64 16)),(3,.const (Value.bool false))]) (x:=(⟨{data:= #[116,99,112,95,115,114,99]},13,16,false⟩:field_row)) rfl rfl rfl (by kernel_rfl) Z0w ⟨_,_,Z0z,_,by kernel_rfl,(vs (by decide)),_,_,lfield_row_1,_,by kernel_rfl,(vk rfl),_,_,Z0v,_,by kernel_rfl,(vk rfl),_,_,Z12,_,by kernel_rfl,vb,rfl⟩) rfl<|Ac (Z0s (ps:=[(0,.const (Value.string {data:= #[116,99,112,95,100,115,116]})),(1,.const (Value.int IntKind.i64 14)),(2,.const (Value.int IntKind.i64 16)),(3,.const (Value.bool false))]) (x:=(⟨{data:= #[116,99,112,95,100,115,116]},14,16,false⟩:field_row)) rfl rfl rfl (by kernel_rfl) Z0w ⟨_,_,Z0z,_,by kernel_rfl,(vs (by decide)),_,_,lfield_row_1,_,by kernel_rfl,(vk rfl),_,_,Z0v,_,by kernel_rfl,(vk rfl),_,_,Z12,_,by kernel_rfl,vb,rfl⟩) rfl<|Ac (Z0s (ps:=[(0,.const (Value.string {data:= #[117,100,112,95,115,114,99]})),(1,.const (Value.int IntKind.i64 15)),(2,.const (Value.int IntKind.i64 16)),(3,.const (Value.bool false))]) (x:=(⟨{data:= #[117,100,112,95,115,114,99]},15,16,false⟩:field_row)) rfl rfl rfl (by kernel_rfl) Z0w ⟨_,_,Z0z,_,by kernel_rfl,(vs (by decide)),_,_,lfield_row_1,_,by kernel_rfl,(vk rfl),_,_,Z0v,_,by kernel_rfl,(vk rfl),_,_,Z12,_,by kernel_rfl,vb,rfl⟩) rfl<|Ac (Z0s (ps:=[(0,.const (Value.string {data:= #[117,100,112,95,100,115,116]})),(1,.const (Value.int IntKind.i64 16)),(2,.const (Value.int IntKind.i64 16)),(3,.const (Value.bool false))]) (x:=(⟨{data:= #[117,100,112,95,100,115,116]},16,16,false⟩:field_row)) rfl rfl rfl (by kernel_rfl) Z0w ⟨_,_,Z0z,_,by kernel_rfl,(vs (by decide)),_,_,lfield_row_1,_,by kernel_rfl,(vk rfl),_,_,Z0v,_,by kernel_rfl,(vk rfl),_,_,Z12,_,by kernel_rfl,vb,rfl⟩) rfl<|Ac (Z0s (ps:=[(0,.const (Value.string {data:= #[105,99,109,112,118,52,95,116,121,112,101]})),(1,.const (Value.int IntKind.i64 19)),(2,.const (Value.int IntKind.i64 8)),(3,.const (Value.bool false))]) (x:=(⟨{data:= #[105,99,109,112,118,52,95,116,121,112,101]},19,8,false⟩:field_row)) rfl rfl rfl (by kernel_rfl) Z0w ⟨_,_,Z0z,_,by kernel_rfl,(vs (by decide)),_,_,lfield_row_1,_,by kernel_rfl,(vk rfl),_,_,Z0v,_,by kernel_rfl,(vk rfl),_,_,Z12,_,by kernel_rfl,vb,rfl⟩) rfl<|Ac (Z0s (ps:=[(0,.const (Value.string {data:= #[105,99,109,112,118,52,95,99,111,100,101]})),(1,.const (Value.int IntKind.i64 20)),(2,.const (Value.int IntKind.i64 8)),(3,.const (Value.bool false))]) (x:=(⟨{data:= #[105,99,109,112,118,52,95,99,111,100,101]},20,8,false⟩:field_row)) rfl rfl rfl (by kernel_rfl) Z0w ⟨_,_,Z0z,_,by kernel_rfl,(vs (by decide)),_,_,lfield_row_1,_,by kernel_rfl,(vk rfl),_,_,Z0v,_,by kernel_rfl,(vk rfl),_,_,Z12,_,by kernel_rfl,vb,rfl⟩) rfl ?_
 refine Ac (Z0s (ps:=[(0,.const (Value.string {data:= #[97,114,112,95,111,112]})),(1,.const (Value.int IntKind.i64 21)),(2,.const (Value.int IntKind.i64 16)),(3,.const (Value.bool false))]) (x:=(⟨{data:= #[97,114,112,95,111,112]},21,16,false⟩:field_row)) rfl rfl rfl (by kernel_rfl) Z0w ⟨_,_,Z0z,_,by kernel_rfl,(vs (by decide)),_,_,lfield_row_1,_,by kernel_rfl,(vk rfl),_,_,Z0v,_,by kernel_rfl,(vk rfl),_,_,Z12,_,by kernel_rfl,vb,rfl⟩) rfl<|Ac (Z0s (ps:=[(0,.const (Value.string {data:= #[97,114,112,95,115,112,97]})),(1,.const (Value.int IntKind.i64 22)),(2,.const (Value.int IntKind.i64 32)),(3,.const (Value.bool true))]) (x:=(⟨{data:= #[97,114,112,95,115,112,97]},22,32,true⟩:field_row)) rfl rfl rfl (by kernel_rfl) Z0w ⟨_,_,Z0z,_,by kernel_rfl,(vs (by decide)),_,_,lfield_row_1,_,by kernel_rfl,(vk rfl),_,_,Z0v,_,by kernel_rfl,(vk rfl),_,_,Z12,_,by kernel_rfl,vb,rfl⟩) rfl<|Ac (Z0s (ps:=[(0,.const (Value.string {data:= #[97,114,112,95,116,112,97]})),(1,.const (Value.int IntKind.i64 23)),(2,.const (Value.int IntKind.i64 32)),(3,.const (Value.bool true))]) (x:=(⟨{data:= #[97,114,112,95,116,112,97]},23,32,true⟩:field_row)) rfl rfl rfl (by kernel_rfl) Z0w ⟨_,_,Z0z,_,by kernel_rfl,(vs (by decide)),_,_,lfield_row_1,_,by kernel_rfl,(vk rfl),_,_,Z0v,_,by kernel_rfl,(vk rfl),_,_,Z12,_,by kernel_rfl,vb,rfl⟩) rfl<|Ac (Z0s (ps:=[(0,.const (Value.string {data:= #[105,112,118,54,95,115,114,99]})),(1,.const (Value.int IntKind.i64 26)),(2,.const (Value.int IntKind.i64 128)),(3,.const (Value.bool true))]) (x:=(⟨{data:= #[105,112,118,54,95,115,114,99]},26,128,true⟩:field_row)) rfl rfl rfl (by kernel_rfl) Z0w ⟨_,_,Z0z,_,by kernel_rfl,(vs (by decide)),_,_,lfield_row_1,_,by kernel_rfl,(vk rfl),_,_,Z0v,_,by kernel_rfl,(vk rfl),_,_,Z12,_,by kernel_rfl,vb,rfl⟩) rfl<|Ac (Z0s (ps:=[(0,.const (Value.string {data:= #[105,112,118,54,95,100,115,116]})),(1,.const (Value.int IntKind.i64 27)),(2,.const (Value.int IntKind.i64 128)),(3,.const (Value.bool true))]) (x:=(⟨{data:= #[105,112,118,54,95,100,115,116]},27,128,true⟩:field_row)) rfl rfl rfl (by kernel_rfl) Z0w ⟨_,_,Z0z,_,by kernel_rfl,(vs (by decide)),_,_,lfield_row_1,_,by kernel_rfl,(vk rfl),_,_,Z0v,_,by kernel_rfl,(vk rfl),_,_,Z12,_,by kernel_rfl,vb,rfl⟩) rfl<|Ac (Z0s (ps:=[(0,.const (Value.string {data:= #[109,112,108,115,95,108,97,98,101,108]})),(1,.const (Value.int IntKind.i64 34)),(2,.const (Value.int IntKind.i64 20)),(3,.const (Value.bool false))]) (x:=(⟨{data:= #[109,112,108,115,95,108,97,98,101,108]},34,20,false⟩:field_row)) rfl rfl rfl (by kernel_rfl) Z0w ⟨_,_,Z0z,_,by kernel_rfl,(vs (by decide)),_,_,lfield_row_1,_,by kernel_rfl,(vk rfl),_,_,Z0v,_,by kernel_rfl,(vk rfl),_,_,Z12,_,by kernel_rfl,vb,rfl⟩) rfl ?_
 refine Ac (Z0s (ps:=[(0,.tmp 1),(1,.tmp 2),(2,.tmp 3),(3,.tmp 4),(4,.tmp 5),(5,.tmp 6),(6,.tmp 7),(7,.tmp 8),(8,.tmp 9),(9,.tmp 10),(10,.tmp 11),(11,.tmp 12),(12,.tmp 13),(13,.tmp 14),(14,.tmp 15),(15,.tmp 16),(16,.tmp 17),(17,.tmp 18),(18,.tmp 19),(19,.tmp 20),(20,.tmp 21),(21,.tmp 22),(22,.tmp 23),(23,.tmp 24)]) (x:=(Vector.set (Vector.set (Vector.set (Vector.set (Vector.set (Vector.set (Vector.set (Vector.set (Vector.set (Vector.set (Vector.set (Vector.set (Vector.set (Vector.set (Vector.set (Vector.set (Vector.set (Vector.set (Vector.set (Vector.set (Vector.set (Vector.set (Vector.set (Vector.set (Vector.replicate 24 Za8) 0 (⟨{data:= #[105,110,95,112,111,114,116]},0,32,false⟩:field_row) (by decide)) 1 (⟨{data:= #[109,101,116,97,100,97,116,97]},2,64,true⟩:field_row) (by decide)) 2 (⟨{data:= #[101,116,104,95,100,115,116]},3,48,true⟩:field_row) (by decide)) 3 (⟨{data:= #[101,116,104,95,115,114,99]},4,48,true⟩:field_row) (by decide)) 4 (⟨{data:= #[101,116,104,95,116,121,112,101]},5,16,false⟩:field_row) (by decide)) 5 (⟨{data:= #[118,108,97,110,95,118,105,100]},6,13,true⟩:field_row) (by decide)) 6 (⟨{data:= #[118,108,97,110,95,112,99,112]},7,3,false⟩:field_row) (by decide)) 7 (⟨{data:= #[105,112,95,100,115,99,112]},8,6,false⟩:field_row) (by decide)) 8 (⟨{data:= #[105,112,95,101,99,110]},9,2,false⟩:field_row) (by decide)) 9 (⟨{data:= #[105,112,95,112,114,111,116,111]},10,8,false⟩:field_row) (by decide)) 10 (⟨{data:= #[105,112,118,52,95,115,114,99]},11,32,true⟩:field_row) (by decide)) 11 (⟨{data:= #[105,112,118,52,95,100,115,116]},12,32,true⟩:field_row) (by decide)) 12 (⟨{data:= #[116,99,112,95,115,114,99]},13,16,false⟩:field_row) (by decide)) 13 (⟨{data:= #[116,99,112,95,100,115,116]},14,16,false⟩:field_row) (by decide)) 14 (⟨{data:= #[117,100,112,95,115,114,99]},15,16,false⟩:field_row) (by decide)) 15 (⟨{data:= #[117,100,112,95,100,115,116]},16,16,false⟩:field_row) (by decide)) 16 (⟨{data:= #[105,99,109,112,118,52,95,116,121,112,101]},19,8,false⟩:field_row) (by decide)) 17 (⟨{data:= #[105,99,109,112,118,52,95,99,111,100,101]},20,8,false⟩:field_row) (by decide)) 18 (⟨{data:= #[97,114,112,95,111,112]},21,16,false⟩:field_row) (by decide)) 19 (⟨{data:= #[97,114,112,95,115,112,97]},22,32,true⟩:field_row) (by decide)) 20 (⟨{data:= #[97,114,112,95,116,112,97]},23,32,true⟩:field_row) (by decide)) 21 (⟨{data:= #[105,112,118,54,95,115,114,99]},26,128,true⟩:field_row) (by decide)) 22 (⟨{data:= #[105,112,118,54,95,100,115,116]},27,128,true⟩:field_row) (by decide)) 23 (⟨{data:= #[109,112,108,115,95,108,97,98,101,108]},34,20,false⟩:field_row) (by decide))) rfl rfl rfl (by kernel_rfl) Zg7 ⟨_,_,Lens.idx 24 Z0g 0 (by decide),_,by kernel_rfl,(vt rfl),_,_,Lens.idx 24 Z0g 1 (by decide),_,by kernel_rfl,(vt rfl),_,_,Lens.idx 24 Z0g 2 (by decide),_,by kernel_rfl,(vt rfl),_,_,Lens.idx 24 Z0g 3 (by decide),_,by kernel_rfl,(vt rfl),_,_,Lens.idx 24 Z0g 4 (by decide),_,by kernel_rfl,(vt rfl),_,_,Lens.idx 24 Z0g 5 (by decide),_,by kernel_rfl,(vt rfl),_,_,Lens.idx 24 Z0g 6 (by decide),_,by kernel_rfl,(vt rfl),_,_,Lens.idx 24 Z0g 7 (by decide),_,by kernel_rfl,(vt rfl),_,_,Lens.idx 24 Z0g 8 (by decide),_,by kernel_rfl,(vt rfl),_,_,Lens.idx 24 Z0g 9 (by decide),_,by kernel_rfl,(vt rfl),_,_,Lens.idx 24 Z0g 10 (by decide),_,by kernel_rfl,(vt rfl),_,_,Lens.idx 24 Z0g 11 (by decide),_,by kernel_rfl,(vt rfl),_,_,Lens.idx 24 Z0g 12 (by decide),_,by kernel_rfl,(vt rfl),_,_,Lens.idx 24 Z0g 13 (by decide),_,by kernel_rfl,(vt rfl),_,_,Lens.idx 24 Z0g 14 (by decide),_,by kernel_rfl,(vt rfl),_,_,Lens.idx 24 Z0g 15 (by decide),_,by kernel_rfl,(vt rfl),_,_,Lens.idx 24 Z0g 16 (by decide),_,by kernel_rfl,(vt rfl),_,_,Lens.idx 24 Z0g 17 (by decide),_,by kernel_rfl,(vt rfl),_,_,Lens.idx 24 Z0g 18 (by decide),_,by kernel_rfl,(vt rfl),_,_,Lens.idx 24 Z0g 19 (by decide),_,by kernel_rfl,(vt rfl),_,_,Lens.idx 24 Z0g 20 (by decide),_,by kernel_rfl,(vt rfl),_,_,Lens.idx 24 Z0g 21 (by decide),_,by kernel_rfl,(vt rfl),_,_,Lens.idx 24 Z0g 22 (by decide),_,by kernel_rfl,(vt rfl),_,_,Lens.idx 24 Z0g 23 (by decide),_,by kernel_rfl,(vt rfl),rfl⟩) rfl ?_
 refine Zs Zie 1 rfl<|Nl<|rt ?_
 cases h;exact Z9 Try.results149 rfl (Z09 rfl (i:=1) rfl Zie)
def Zcs (x1:Int):Option field_row:=
 (Z4o x1).bind fun x3=>(bif (!x3) then some (⟨(⟨#[]⟩:ByteArray),(-1),0,false⟩:field_row) else (Z9n).bind fun x4=>(lget (Vector.toList x4) x1).bind fun x5=>some x5)
theorem Zsc:Q1 Try.prog 146 (rd (Z0 .i64)) (rd Z0g) Zcs:=fun x1 r h=>I0 Try.func146 rfl Try.ntmps146 rfl fun w H=>by
 unfold Zcs at h
 refine SR<|Cv rfl (Z05 3 rfl rfl Z0w) fun g2=>Nl<|sq<|sq ?_
 obtain ⟨x3,hx3,h⟩:=Za h
 refine Rg<|Md rfl<|Cl [3] (Zcu _ _ hx3) Zdg rfl<|Ac (Z1g rfl rfl (vt rfl)) rfl<|Nl<|Cq rfl h (fun h=>?_) (fun h=>?_)
 ·refine SR<|Ac (opb (⟨(⟨#[]⟩:ByteArray),(-1),0,false⟩:field_row) Z0w rfl Zm7 (pc Znt (vk rfl)<|pn rfl)) rfl<|Zs Zam 3 rfl<|Nl<|rt ?_
  cases h;exact Z9 Try.results146 rfl (Z09 rfl (i:=3) rfl Zam)
 ·refine sk<|sq ?_
  obtain ⟨x4,hx4,x5,hx5,h⟩:=bs2 h
  refine Rg<|Cl [] (Zo2 _ hx4) Zt4 rfl<|Md rfl<|Ac (Zeu rfl rfl Ztf Zam (vt rfl) (vt rfl) hx5) rfl<|Zs Zam 3 rfl<|Nl<|rt ?_
  cases h;exact Z9 Try.results146 rfl (Z09 rfl (i:=3) rfl Zam)
def Z5c (x1:Int):Option Int:=
 (Zcs x1).bind fun x2=>some x2.bits
theorem Zpg:Q1 Try.prog 140 (rd (Z0 .i64)) (rd (Z0 .i64)) Z5c:=fun x1 r h=>I0 Try.func140 rfl Try.ntmps140 rfl fun w H=>by
 unfold Z5c at h
 refine SR<|Ak rfl<|Nl<|sq ?_
 obtain ⟨x2,hx2,h⟩:=Za h
 refine Rg<|Md rfl<|Cl [3] (Zsc _ _ hx2) Ztc rfl<|Ac (Zgc Z0v rfl rfl Ztp Zqj Zl rfl (vt rfl)) rfl<|As rfl<|Nl<|rt ?_
 cases h;exact Z9 Try.results140 rfl (Zg rfl)
def Z6l (n1:Int):Option (BitVec 64):=
 (bif (decide (n1≥64)) then some (18446744073709551615:BitVec 64) else (Z5g (1:BitVec 64) (Z1c n1 0)).bind fun q2=>some (q2 - (1:BitVec 64)))
theorem Zfy:Q1 Try.prog 142 (rd (Z0 .i64)) (rd Z01) Z6l:=fun n1 r h=>I0 Try.func142 rfl Try.ntmps142 rfl fun w H=>by
 unfold Z6l at h
 refine SR<|Ac (Z0d (A:=rd Z01 (0:BitVec 64)) rfl rfl (vku (0:BitVec 64) rfl)) rfl<|Nl<|sq<|SR<|Md rfl<|Ac (Z33 rfl rfl (vt rfl) (vk rfl)) rfl<|Nl<|Cq rfl h (fun h=>?_) (fun h=>?_)
 ·refine SR<|Ac (Z0d (A:=rd Z01 (18446744073709551615:BitVec 64)) rfl rfl (vku (18446744073709551615:BitVec 64) rfl)) rfl<|Nl<|rt ?_
  cases h;exact Z9 Try.results142 rfl (Zg rfl)
 ·refine sk<|sq ?_
  obtain ⟨q2,hq2,h⟩:=Za h
  refine Rg<|Md rfl<|Ac (Ze7 rfl rfl (vt rfl) (vk rfl)) rfl<|Ac (Zin rfl rfl (vku (1:BitVec 64) rfl) (vt rfl) hq2) rfl<|Ac (Zr6 rfl rfl (vt rfl) (vku (1:BitVec 64) rfl)) rfl<|As rfl<|Nl<|rt ?_
  cases h;exact Z9 Try.results142 rfl (Zg rfl)
def Z3r (n1:Int):Option Wide:=
 (Z6l (IntKind.i64.wrap ((Z1u (Z1c n1 0) 128) - 64))).bind fun x3=>(Z6l (Z1u (Z1c n1 0) 128)).bind fun x4=>some (⟨x3,x4⟩:Wide)
theorem Zdj:Q1 Try.prog 133 (rd (Z0 .i64)) (rd Zk) Z3r:=fun n1 r h=>I0 Try.func133 rfl Try.ntmps133 rfl fun w H=>by
 unfold Z3r at h
 refine SR<|Cv rfl (Z05 3 rfl rfl Z2p) fun g2=>Nl<|SR<|Md rfl<|Ac (Ze7 rfl rfl (vt rfl) (vk rfl)) rfl<|Ac (Zil rfl rfl (vt rfl) (vk rfl)) rfl<|As rfl<|Nl<|sq ?_
 obtain ⟨x3,hx3,x4,hx4,h⟩:=bs2 h
 refine Rg<|Md rfl<|Ac (Z0x rfl rfl (vt rfl) (vk rfl)) rfl<|Cl [7] (Zfy _ _ hx3) Zg5 rfl<|Md rfl<|Cl [9] (Zfy _ _ hx4) Zg5 rfl<|Ac (opb (⟨x3,x4⟩:Wide) Z2p rfl Z58 (pc Z9j (vt rfl)<|pc Z9p (vt rfl)<|pn rfl)) rfl<|Zs Z0k 3 rfl<|Nl<|rt ?_
 cases h;exact Z9 Try.results133 rfl (Z09 rfl (i:=3) rfl Z0k)
end Go.Proofs.Ytknpgojdkobgjaa.W
set_option maxRecDepth 4000
namespace Go.Proofs.Ytknpgojdkobgjaa.W
open Go Go.Wb
theorem Zqh:Ent Try.prog 140:=Ent.mk Try.func140 rfl rfl
theorem Zdn:Ent Try.prog 133:=Ent.mk Try.func133 rfl rfl
theorem e84:Ent Try.prog 84:=Ent.mk Try.func84 rfl rfl
theorem Zdv:Ent Try.prog 122:=Ent.mk Try.func122 rfl rfl
theorem Zmm:Ent Try.prog 121:=Ent.mk Try.func121 rfl rfl
theorem Ztd:Ent Try.prog 120:=Ent.mk Try.func120 rfl rfl
theorem e83:Ent Try.prog 83:=Ent.mk Try.func83 rfl rfl
theorem e82:Ent Try.prog 82:=Ent.mk Try.func82 rfl rfl
def Z9g (o1:Oxm):Option Tern:=
 (Z4o o1.Field).bind fun x4=>(bif (!x4) then some (⟨Z1s,Z1s⟩:Tern) else (bif o1.Masked then some (⟨o1.Value,o1.Mask⟩:Tern) else (Z5c o1.Field).bind fun x5=>(Z3r x5).bind fun x6=>some (⟨o1.Value,x6⟩:Tern)))
theorem Zpq:Q1 Try.prog 131 (rd Z1t) (rd Z0j) Z9g:=fun o1 r h=>I0 Try.func131 rfl Try.ntmps131 rfl fun w H=>by
 unfold Z9g at h
 refine SR<|Cv rfl (Z00 2 rfl rfl (vt rfl)) fun g2=>Cv rfl (Z05 3 rfl rfl Z2s) fun g3=>Nl<|sq<|bk<|sq ?_
 obtain ⟨x4,hx4,h⟩:=Za h
 refine Rg<|Zo Z8r Zcc rfl<|Ld Zl 2 rfl<|Cl [5] (Zcu _ _ hx4) Zdg rfl<|Ac (Z1g rfl rfl (vt rfl)) rfl<|As rfl<|Nl<|Cq rfl h (fun h=>?_) (fun h=>?_)
 ·refine SR<|Ac (opb (⟨Z1s,Z1s⟩:Tern) Z2s rfl Z6k (pn rfl)) rfl<|Zs Z17 3 rfl<|Nl<|rt ?_
  cases h;exact Z9 Try.results131 rfl (Z09 rfl (i:=3) rfl Z17)
 ·refine SR<|Zo Zgr Zre rfl<|Ld ty4 2 rfl<|As rfl<|Nl<|Cq rfl h (fun h=>?_) (fun h=>?_)
  ·refine SR<|Zo Zcw Zi2 rfl<|Ld Z0k 2 rfl<|Zo Zft Zkw rfl<|Ld Z0k 2 rfl<|Ac (opb (⟨o1.Value,o1.Mask⟩:Tern) Z2s rfl Z6k (pc Zak (vt rfl)<|pc Za9 (vt rfl)<|pn rfl)) rfl<|Zs Z17 3 rfl<|Nl<|rt ?_
   cases h;exact Z9 Try.results131 rfl (Z09 rfl (i:=3) rfl Z17)
  ·refine sk<|sq ?_
   obtain ⟨x5,hx5,x6,hx6,h⟩:=bs2 h
   refine AR Z0n (by kernel_rfl)<|SFd Zcw Zi2 rfl<|SLd Z0k 2 rfl<|SFd Z8r Zcc rfl<|SLd Zl 2 rfl<|SCl [20] (Zpg _ _ hx5) Zqh rfl<|SCl [21] (Zdj _ _ hx6) Zdn rfl<|Sd (lo [18,22] [] rfl fun S hs hr=>opb (⟨o1.Value,x6⟩:Tern) Z2s rfl Z6k (pc Zak (vh hs 18 rfl rfl)<|pc Za9 (vh hs 22 rfl rfl)<|pn rfl))<|SSt Z17 3 rfl<|Sn<|rt ?_
   cases h;exact Z9 Try.results131 rfl (Z09 rfl (i:=3) rfl Z17)
def Z9k (a1:Wide)(b2:Wide):Option Wide:=
 some (⟨(a1.Hi&&& b2.Hi),(a1.Lo&&& b2.Lo)⟩:Wide)
theorem Zhz:Q2 Try.prog 84 (rd Zk) (rd Zk) (rd Zk) Z9k:=fun a1 b2 r h=>I0 Try.func84 rfl Try.ntmps84 rfl fun w H=>by
 unfold Z9k at h
 refine SR<|Cv rfl (Z00 3 rfl rfl (vt rfl)) fun g3=>Cv rfl (Z00 4 rfl rfl (vt rfl)) fun g4=>Cv rfl (Z05 5 rfl rfl Z2p) fun g5=>Nl<|SR<|Zo lWide_0 Z7z rfl<|Ld Z1q 3 rfl<|Zo lWide_0 Z7z rfl<|Ld Z1q 4 rfl<|Ac (Zjr rfl rfl (vt rfl) (vt rfl)) rfl<|Zo lWide_1 Z75 rfl<|Ld Z1q 3 rfl<|Zo lWide_1 Z75 rfl<|Ld Z1q 4 rfl<|Ac (Zjr rfl rfl (vt rfl) (vt rfl)) rfl<|Ac (opb (⟨(a1.Hi&&& b2.Hi),(a1.Lo&&& b2.Lo)⟩:Wide) Z2p rfl Z58 (pc Z9j (vt rfl)<|pc Z9p (vt rfl)<|pn rfl)) rfl<|Zs Z0k 5 rfl<|Nl<|rt ?_
 cases h;exact Z9 Try.results84 rfl (Z09 rfl (i:=5) rfl Z0k)
def Z6o (t1:Tern):Option Tern:=
 (Z9k t1.Value t1.Mask).bind fun x4=>some (⟨x4,t1.Mask⟩:Tern)
theorem Zed:Q1 Try.prog 122 (rd Z0j) (rd Z0j) Z6o:=fun t1 r h=>I0 Try.func122 rfl Try.ntmps122 rfl fun w H=>by
 unfold Z6o at h
 refine SR<|Cv rfl (Z00 2 rfl rfl (vt rfl)) fun g2=>Cv rfl (Z05 3 rfl rfl Z2s) fun g3=>Nl<|sq ?_
 obtain ⟨x4,hx4,h⟩:=Za h
 refine AR Z0n (by kernel_rfl)<|SFd lTern_0 Z9h rfl<|SLd Z0k 2 rfl<|SFd lTern_1 Z4g rfl<|SLd Z0k 2 rfl<|SCl [4,6] (Zhz _ _ _ hx4) e84 rfl<|SFd lTern_1 Z4g rfl<|SLd Z0k 2 rfl<|Sd (lo [7,9] [] rfl fun S hs hr=>opb (⟨x4,t1.Mask⟩:Tern) Z2s rfl Z6k (pc Zak (vh hs 7 rfl rfl)<|pc Za9 (vh hs 9 rfl rfl)<|pn rfl))<|SSt Z17 3 rfl<|Sn<|rt ?_
 cases h;exact Z9 Try.results122 rfl (Z09 rfl (i:=3) rfl Z17)
def Z77 (i1:Int)(x2:Z2x):Option Tern:=
 (chk 24 i1).bind fun j4=>(Z6o (Vector.get x2 j4)).bind fun x5=>some x5
theorem Zlb:Q2 Try.prog 121 (rd (Z0 .i64)) (rp (Zm 24 Z0j)) (rd Z0j) Z77:=fun i1 x2 r h=>I0 Try.func121 rfl Try.ntmps121 rfl fun w H=>by
 unfold Z77 at h
 refine SR<|Cv rfl (Z05 4 rfl rfl Z2s) fun g3=>Nl<|sq ?_
 obtain ⟨j4,hj4,x5,hx5,h⟩:=bs2 h
 refine Rg<|Md rfl<|Ac (Zlq rfl rfl Za0 (vt rfl) (vt rfl) hj4) rfl<|Lp1 Z17 rfl<|Cl [6] (Zed _ _ hx5) Zdv rfl<|Zs Z17 4 rfl<|Nl<|rt ?_
 cases h;exact Z9 Try.results121 rfl (Z09 rfl (i:=4) rfl Z17)
def Z43 (x1:(Int→Option Tern)):Nat→Nat→Z2x→Option Z2x
 | 0,i6,b5=>some b5
 | m7+1,i6,b5=>(x1 (i6:Int)).bind fun x8=>(chk 24 (i6:Int)).bind fun j9=>(Z43 x1 m7) (i6+1) (Vector.set b5 j9.1 x8 j9.2)
def Z9o (x1:(Int→Option Tern)):Option Z2x:=
 Z43 x1 (24:Int).toNat 0 (Vector.replicate 24 Z3a)
theorem Zr9:Q1 Try.prog 120 (fn1 Try.prog (Z0 .i64) Z0j) (rd (Zm 24 Z0j)) Z9o:=fun x1 r h=>I0 Try.func120 rfl Try.ntmps120 rfl fun w H=>by
 unfold Z9o at h
 refine SR<|Cv rfl (Z05 3 rfl rfl Z4f) fun g2=>Nl<|SR<|Cv rfl (Z05 4 rfl rfl Z4f) fun g3=>Nl<|sq<|SR<|Mk rfl<|Nl<|bk<|LG (d:=[]) (ν:=Nat×Nat×Z2x) (fun (m7,i6,b5)=>(Cnt 24 i6 m7∧Z43 x1 m7 i6 b5=some r,m7,[(0,fn1 Try.prog (Z0 .i64) Z0j x1),(2,Zp g2 (Lens.id (Zm 24 Z0j))),(3,Zp g3 (Lens.id (Zm 24 Z0j))),(5,rd (Z0 .i64) (i6:Int))],[(3,Blk g2 51 (Zm 24 Z0j) (Vector.replicate 24 Z3a)),(4,Blk g3 51 (Zm 24 Z0j) b5)])) ((24:Int).toNat,0,(Vector.replicate 24 Z3a)) ⟨Cnt.start _,h⟩ (FX rfl) ?_
 rintro ⟨m7,i6,b5⟩ ⟨hsf1,h⟩
 dsimp only at hsf1 h ⊢
 cases m7 with
 | zero=>
  unfold Z43 at h
  refine SR<|Ac (Zh rfl rfl (vt rfl) (vk rfl)) rfl<|Nl<|sq<|Cn rfl (fun hc=>absurd (of_decide_eq_true hc) hsf1.zero) (fun hc=>?_)
  refine xt<|SR<|Ld Z0h 4 rfl<|Zs Z0h 3 rfl<|Nl<|rt ?_
  cases h;exact Z9 Try.results120 rfl (Z09 rfl (i:=3) rfl Z0h)
 | succ m7=>
  unfold Z43 at h
  refine SR<|Ac (Zh rfl rfl (vt rfl) (vk rfl)) rfl<|Nl<|sq<|Cn rfl (fun hc=>?_) (fun hc=>absurd hsf1.succ (of_decide_eq_false hc))
  have hlti6:=of_decide_eq_true hc
  refine sk<|sq<|bk<|SR<|Md rfl<|As rfl<|Nl ?_
  obtain ⟨x8,hx8,j9,hj9,h⟩:=bs2 h
  refine Rg<|Md rfl<|Ac (Ze (A:=fn1 Try.prog (Z0 .i64) Z0j x1) rfl rfl (vt rfl)) rfl<|Md rfl<|Ac (Z48 hx8 rfl rfl (vt rfl) (vt rfl)) rfl<|Ac (Z3u rfl rfl Za0 (vt rfl) (vt rfl) hj9) rfl<|Zs Z17 4 rfl<|Nl<|Rg<|Ac (Zb3 rfl rfl (vt rfl) (vk rfl) rfl hlti6) rfl<|Md rfl<|Nl ?_
  exact ⟨(_,_,_),Nat.lt_succ_self _,⟨hsf1.next,h⟩,FX rfl⟩
def Za3 (x1:Z2x):Option Z2x:=
 (Z9o (fun x=>Z77 x x1)).bind fun x4=>some x4
theorem Zr8:Q1 Try.prog 81 (rd (Zm 24 Z0j)) (rd (Zm 24 Z0j)) Za3:=fun x1 r h=>I0 Try.func81 rfl Try.ntmps81 rfl fun w H=>by
 unfold Za3 at h
 refine SR<|Cv rfl (Z00 2 rfl rfl (vt rfl)) fun g2=>Cv rfl (Z05 3 rfl rfl Z4f) fun g3=>Nl<|sq<|AW.freezeB 1 2 rfl rfl rfl ?_
 obtain ⟨x4,hx4,h⟩:=Za h
 refine Rg<|Ac (Z3s (cs:=[.tmp 1]) (CAs:=[rp (Zm 24 Z0j) x1]) (fun x=>Z77 x x1) rfl rfl Zmm ⟨vt rfl,trivial⟩ (fun x y h=>Zlb _ _ y h)) rfl<|Cl [3] (Zr9 _ _ hx4) Ztd rfl<|Zs Z0h 3 rfl<|Nl<|rt ?_
 cases h;exact Z9 Try.results81 rfl (Z09 rfl (i:=3) rfl Z0h)
def Za5 (a1:Wide)(b2:Wide):Option Wide:=
 some (⟨(a1.Hi&&& ~~~b2.Hi),(a1.Lo&&& ~~~b2.Lo)⟩:Wide)
theorem Zji:Q2 Try.prog 83 (rd Zk) (rd Zk) (rd Zk) Za5:=fun a1 b2 r h=>I0 Try.func83 rfl Try.ntmps83 rfl fun w H=>by
 unfold Za5 at h
 refine SR<|Cv rfl (Z00 3 rfl rfl (vt rfl)) fun g3=>Cv rfl (Z00 4 rfl rfl (vt rfl)) fun g4=>Cv rfl (Z05 5 rfl rfl Z2p) fun g5=>Nl<|SR<|Zo lWide_0 Z7z rfl<|Ld Z1q 3 rfl<|Zo lWide_0 Z7z rfl<|Ld Z1q 4 rfl<|Ac (Zhx rfl rfl (vt rfl) (vt rfl)) rfl<|Zo lWide_1 Z75 rfl<|Ld Z1q 3 rfl<|Zo lWide_1 Z75 rfl<|Ld Z1q 4 rfl<|Ac (Zhx rfl rfl (vt rfl) (vt rfl)) rfl<|Ac (opb (⟨(a1.Hi&&& ~~~b2.Hi),(a1.Lo&&& ~~~b2.Lo)⟩:Wide) Z2p rfl Z58 (pc Z9j (vt rfl)<|pc Z9p (vt rfl)<|pn rfl)) rfl<|Zs Z0k 5 rfl<|Nl<|rt ?_
 cases h;exact Z9 Try.results83 rfl (Z09 rfl (i:=5) rfl Z0k)
def Z88 (a1:Wide)(b2:Wide):Option Wide:=
 some (⟨(a1.Hi||| b2.Hi),(a1.Lo||| b2.Lo)⟩:Wide)
theorem Zdu:Q2 Try.prog 82 (rd Zk) (rd Zk) (rd Zk) Z88:=fun a1 b2 r h=>I0 Try.func82 rfl Try.ntmps82 rfl fun w H=>by
 unfold Z88 at h
 refine SR<|Cv rfl (Z00 3 rfl rfl (vt rfl)) fun g3=>Cv rfl (Z00 4 rfl rfl (vt rfl)) fun g4=>Cv rfl (Z05 5 rfl rfl Z2p) fun g5=>Nl<|SR<|Zo lWide_0 Z7z rfl<|Ld Z1q 3 rfl<|Zo lWide_0 Z7z rfl<|Ld Z1q 4 rfl<|Ac (Zgh rfl rfl (vt rfl) (vt rfl)) rfl<|Zo lWide_1 Z75 rfl<|Ld Z1q 3 rfl<|Zo lWide_1 Z75 rfl<|Ld Z1q 4 rfl<|Ac (Zgh rfl rfl (vt rfl) (vt rfl)) rfl<|Ac (opb (⟨(a1.Hi||| b2.Hi),(a1.Lo||| b2.Lo)⟩:Wide) Z2p rfl Z58 (pc Z9j (vt rfl)<|pc Z9p (vt rfl)<|pn rfl)) rfl<|Zs Z0k 5 rfl<|Nl<|rt ?_
 cases h;exact Z9 Try.results82 rfl (Z09 rfl (i:=5) rfl Z0k)
def Zaw (a1:Tern)(b2:Tern):Option Tern:=
 (Z6o a1).bind fun x6=>(Z6o b2).bind fun x7=>(Za5 x6.Value x7.Mask).bind fun x8=>(Z88 x8 x7.Value).bind fun x9=>(Z88 x6.Mask x7.Mask).bind fun x10=>some (⟨x9,x10⟩:Tern)
theorem Zof:Q2 Try.prog 141 (rd Z0j) (rd Z0j) (rd Z0j) Zaw:=fun a1 b2 r h=>I0 Try.func141 rfl Try.ntmps141 rfl fun w H=>by
 unfold Zaw at h
 refine SR<|Cv rfl (Z00 3 rfl rfl (vt rfl)) fun g3=>Cv rfl (Z00 4 rfl rfl (vt rfl)) fun g4=>Cv rfl (Z05 5 rfl rfl Z2s) fun g5=>Nl<|sq ?_
 obtain ⟨x6,hx6,x7,hx7,h⟩:=bs2 h
 refine AR Z0n (by kernel_rfl)<|SLd Z17 3 rfl<|SCl [5] (Zed _ _ hx6) Zdv rfl<|SLd Z17 4 rfl<|SCl [7] (Zed _ _ hx7) Zdv rfl<|SSt Z17 3 rfl<|SSt Z17 4 rfl<|Sn<|sq ?_
 obtain ⟨x8,hx8,x9,hx9,x10,hx10,h⟩:=bs3 h
 refine AR Z0n (by kernel_rfl)<|SFd lTern_0 Z9h rfl<|SLd Z0k 3 rfl<|SFd lTern_1 Z4g rfl<|SLd Z0k 4 rfl<|SCl [10,12] (Zji _ _ _ hx8) e83 rfl<|SFd lTern_0 Z9h rfl<|SLd Z0k 4 rfl<|SCl [13,15] (Zdu _ _ _ hx9) e82 rfl<|SFd lTern_1 Z4g rfl<|SLd Z0k 3 rfl<|SFd lTern_1 Z4g rfl<|SLd Z0k 4 rfl<|SCl [18,20] (Zdu _ _ _ hx10) e82 rfl<|Sd (lo [16,21] [] rfl fun S hs hr=>opb (⟨x9,x10⟩:Tern) Z2s rfl Z6k (pc Zak (vh hs 16 rfl rfl)<|pc Za9 (vh hs 21 rfl rfl)<|pn rfl))<|SSt Z17 5 rfl<|Sn<|rt ?_
 cases h;exact Z9 Try.results141 rfl (Z09 rfl (i:=5) rfl Z17)
end Go.Proofs.Ytknpgojdkobgjaa.W
set_option maxRecDepth 4000
namespace Go.Proofs.Ytknpgojdkobgjaa.W
open Go Go.Wb
theorem e81:Ent Try.prog 81:=Ent.mk Try.func81 rfl rfl
theorem Zq7:Ent Try.prog 141:=Ent.mk Try.func141 rfl rfl
theorem e46:Ent Try.prog 46:=Ent.mk Try.func46 rfl rfl
theorem Zp5:Ent Try.prog 131:=Ent.mk Try.func131 rfl rfl
theorem Zc4:Ent Try.prog 132:=Ent.mk Try.func132 rfl rfl
theorem e96:Ent Try.prog 96:=Ent.mk Try.func96 rfl rfl
theorem e75:Ent Try.prog 75:=Ent.mk Try.func75 rfl rfl
theorem e76:Ent Try.prog 76:=Ent.mk Try.func76 rfl rfl
theorem e79:Ent Try.prog 79:=Ent.mk Try.func79 rfl rfl
theorem e78:Ent Try.prog 78:=Ent.mk Try.func78 rfl rfl
theorem e77:Ent Try.prog 77:=Ent.mk Try.func77 rfl rfl
theorem Zsd:Ent Try.prog 106:=Ent.mk Try.func106 rfl rfl
theorem e44:Ent Try.prog 44:=Ent.mk Try.func44 rfl rfl
theorem Znr:Ent Try.prog 107:=Ent.mk Try.func107 rfl rfl
theorem e52:Ent Try.prog 52:=Ent.mk Try.func52 rfl rfl
theorem e6:Ent Try.prog 6:=Ent.mk Try.func6 rfl rfl
theorem e7:Ent Try.prog 7:=Ent.mk Try.func7 rfl rfl
theorem e11:Ent Try.prog 11:=Ent.mk Try.func11 rfl rfl
theorem e9:Ent Try.prog 9:=Ent.mk Try.func9 rfl rfl
theorem e13:Ent Try.prog 13:=Ent.mk Try.func13 rfl rfl
theorem e15:Ent Try.prog 15:=Ent.mk Try.func15 rfl rfl
theorem e14:Ent Try.prog 14:=Ent.mk Try.func14 rfl rfl
def Z56 (x1:Z2x)(x2:Int)(x3:Wide)(m4:Wide):Option Z2x:=
 (Za3 x1).bind fun x9=>(Z4o x2).bind fun x10=>(bif x10 then (chk 24 x2).bind fun j11=>(Zaw (Vector.get x9 j11) (⟨x3,m4⟩:Tern)).bind fun x12=>(chk 24 x2).bind fun j13=>some (Vector.set x9 j13.1 x12 j13.2) else some x9)
theorem Zc9:Q4 Try.prog 132 (rd (Zm 24 Z0j)) (rd (Z0 .i64)) (rd Zk) (rd Zk) (rd (Zm 24 Z0j)) Z56:=fun x1 x2 x3 m4 r h=>I0 Try.func132 rfl Try.ntmps132 rfl fun w H=>by
 unfold Z56 at h
 refine SR<|Cv rfl (Z00 5 rfl rfl (vt rfl)) fun g5=>Cv rfl (Z00 7 rfl rfl (vt rfl)) fun g6=>Cv rfl (Z00 8 rfl rfl (vt rfl)) fun g7=>Cv rfl (Z05 9 rfl rfl Z4f) fun g8=>Nl<|sq ?_
 obtain ⟨x9,hx9,h⟩:=Za h
 refine Rg<|Ld Z0h 5 rfl<|Cl [9] (Zr8 _ _ hx9) e81 rfl<|Zs Z0h 5 rfl<|Nl<|sq<|sq ?_
 obtain ⟨x10,hx10,h⟩:=Za h
 refine Rg<|Md rfl<|Cl [11] (Zcu _ _ hx10) Zdg rfl<|Nl<|Cq rfl h (fun h=>?_) (fun h=>?_)
 ·obtain ⟨j11,hj11,x12,hx12,j13,hj13,h⟩:=bs3 h
  refine AR Z0n (by kernel_rfl)<|Zt rfl<|Zt rfl<|Sd (lo [4,14] [] rfl fun S hs hr=>Z3u rfl rfl Za0 (vh hs 4 rfl rfl) (vh hs 14 rfl rfl) hj11)<|SLd Z17 5 rfl<|SLd Z0k 7 rfl<|SLd Z0k 8 rfl<|Sd (lo [17,18] [] rfl fun S hs hr=>opb (⟨x3,m4⟩:Tern) Z2s rfl Z6k (pc Zak (vh hs 17 rfl rfl)<|pc Za9 (vh hs 18 rfl rfl)<|pn rfl))<|SCl [16,19] (Zof _ _ _ hx12) Zq7 rfl<|Sd (lo [4,13] [] rfl fun S hs hr=>Z3u rfl rfl Za0 (vh hs 4 rfl rfl) (vh hs 13 rfl rfl) hj13)<|SSt Z17 5 rfl<|Sn<|SR<|Ld Z0h 5 rfl<|Zs Z0h 9 rfl<|Nl<|rt ?_
  cases h;exact Z9 Try.results132 rfl (Z09 rfl (i:=9) rfl Z0h)
 ·refine sk<|SR<|Ld Z0h 5 rfl<|Zs Z0h 9 rfl<|Nl<|rt ?_
  cases h;exact Z9 Try.results132 rfl (Z09 rfl (i:=9) rfl Z0h)
def Z6w (i1:Int):Option Wide:=
 (bif ((decide (i1<0))||(decide (i1>127))) then some (⟨0,0⟩:Wide) else (Z3t .i64 i1 64).bind fun q4=>(Z2j i1 64).bind fun q5=>(Z5g (1:BitVec 64) q5).bind fun q6=>(chk 2 q4).bind fun j7=>some (⟨(Vector.get (Vector.set (Vector.replicate 2 0) j7.1 q6 j7.2) (⟨1,by decide⟩:_root_.Fin 2)),(Vector.get (Vector.set (Vector.replicate 2 0) j7.1 q6 j7.2) (⟨0,by decide⟩:_root_.Fin 2))⟩:Wide))
theorem Zjg:Q1 Try.prog 96 (rd (Z0 .i64)) (rd Zk) Z6w:=fun i1 r h=>I0 Try.func96 rfl Try.ntmps96 rfl fun w H=>by
 unfold Z6w at h
 refine SR<|Cv rfl (Z05 3 rfl rfl Z2p) fun g2=>Nl<|SR<|Cv rfl (Z05 4 rfl rfl Zou) fun g3=>Nl<|sq<|SR<|Md rfl<|Ac (Zh rfl rfl (vt rfl) (vk rfl)) rfl<|Md rfl<|Gd rfl (fun hq=>Ze (A:=rd (Z0 .i64) i1) rfl rfl (vt rfl))<|Gd rfl (fun hq=>Z2a rfl rfl (Z8 rfl hq) (vk rfl))<|Ac (Z2t rfl rfl (vt rfl) (vt rfl)) rfl<|Nl<|Cq rfl h (fun h=>?_) (fun h=>?_)
 ·refine SR<|Ac (opb (⟨0,0⟩:Wide) Z2p rfl Z58 (pn rfl)) rfl<|Zs Z0k 3 rfl<|Nl<|rt ?_
  cases h;exact Z9 Try.results96 rfl (Z09 rfl (i:=3) rfl Z0k)
 ·refine sk<|sq ?_
  obtain ⟨q4,hq4,q5,hq5,q6,hq6,j7,hj7,h⟩:=bs4 h
  refine Rg<|Md rfl<|Ac (Zh1 rfl rfl (vt rfl) (vk rfl) hq4) rfl<|Md rfl<|Ac (Zb6 rfl rfl (vt rfl) (vk rfl) hq5) rfl<|Ac (Zin rfl rfl (vku (1:BitVec 64) rfl) (vt rfl) hq6) rfl<|Ac (Z3u rfl rfl Ze2 (vt rfl) (vt rfl) hj7) rfl<|Zs Z1q 4 rfl<|Nl<|SR<|Ac (Z3u rfl rfl Ze2 (vt rfl) (vk rfl) rfl) rfl<|Ld Z1q 4 rfl<|Ac (Z3u rfl rfl Ze2 (vt rfl) (vk rfl) rfl) rfl<|Ld Z1q 4 rfl<|Ac (opb (⟨(Vector.get (Vector.set (Vector.replicate 2 0) j7.1 q6 j7.2) (⟨1,by decide⟩:_root_.Fin 2)),(Vector.get (Vector.set (Vector.replicate 2 0) j7.1 q6 j7.2) (⟨0,by decide⟩:_root_.Fin 2))⟩:Wide) Z2p rfl Z58 (pc Z9j (vt rfl)<|pc Z9p (vt rfl)<|pn rfl)) rfl<|Zs Z0k 3 rfl<|Nl<|rt ?_
  cases h;exact Z9 Try.results96 rfl (Z09 rfl (i:=3) rfl Z0k)
def Z8m (a1:Action):Option Z2x:=
 (Zb7).bind fun x4=>(bif (decide (a1.Kind=25)) then (Z9g a1.Oxm).bind fun x6=>(Z56 x4 a1.Oxm.Field x6.Value x6.Mask).bind fun x8=>some x8 else (bif (decide (a1.Kind=17)) then (Z6w 12).bind fun x9=>(Z6w 12).bind fun x10=>(Z56 x4 5 x9 x10).bind fun x11=>some x11 else (bif (decide (a1.Kind=18)) then (Z3r 13).bind fun x12=>(Z56 x4 5 (⟨0,0⟩:Wide) x12).bind fun x13=>(Z3r 3).bind fun x14=>(Z56 x13 6 (⟨0,0⟩:Wide) x14).bind fun x15=>some x15 else some x4)))
theorem Zsz:Q1 Try.prog 107 (rd Z3) (rd (Zm 24 Z0j)) Z8m:=fun a1 r h=>I0 Try.func107 rfl Try.ntmps107 rfl fun w H=>by
 unfold Z8m at h
 refine SR<|Cv rfl (Z00 2 rfl rfl (vt rfl)) fun g2=>Cv rfl (Z05 3 rfl rfl Z4f) fun g3=>Nl<|sq ?_
 obtain ⟨x4,hx4,h⟩:=Za h
 refine Rg<|Cl [] (Zny _ hx4) e46 rfl<|Cv rfl (Z05 4 rfl rfl Z4f) fun g5=>Zs Z0h 4 rfl<|Nl<|sq<|SR<|Zo Z38 Z3p rfl<|Ld Zl 2 rfl<|Nl<|bk<|SR<|Ac (Z0l rfl rfl (vt rfl) (vk rfl)) rfl<|As rfl<|Nl<|Cq rfl h (fun h=>?_) (fun h=>?_)
 ·refine sq ?_
  obtain ⟨x6,hx6,h⟩:=Za h
  refine Rg<|Zo Zc6 Zfe rfl<|Ld Zpl 2 rfl<|Cl [11] (Zpq _ _ hx6) Zp5 rfl<|Cv rfl (Z05 5 rfl rfl Z2s) fun g7=>Zs Z17 5 rfl<|Nl ?_
  obtain ⟨x8,hx8,h⟩:=Za h
  refine Rg<|Ld Z0h 4 rfl<|Zo Zc6 Zfe rfl<|Zo Z8r Zcc rfl<|Ld Zl 2 rfl<|Zo lTern_0 Z9h rfl<|Ld Z0k 5 rfl<|Zo lTern_1 Z4g rfl<|Ld Z0k 5 rfl<|Cl [13,16,18,20] (Zc9 _ _ _ _ _ hx8) Zc4 rfl<|Zs Z0h 4 rfl<|Nl<|SR<|Ld Z0h 4 rfl<|Zs Z0h 3 rfl<|Nl<|rt ?_
  cases h;exact Z9 Try.results107 rfl (Z09 rfl (i:=3) rfl Z0h)
 ·refine SR<|Ac (Z0l rfl rfl (vt rfl) (vk rfl)) rfl<|As rfl<|Nl<|Cq rfl h (fun h=>?_) (fun h=>?_)
  ·obtain ⟨x9,hx9,x10,hx10,x11,hx11,h⟩:=bs3 h
   refine AR Z0n (by kernel_rfl)<|SLd Z0h 4 rfl<|Sd (lo [] [] rfl fun S hs hr=>Z0i (xs:=[.const (Value.int IntKind.i64 12)]) (Zjg _ _ hx9) e96 rfl rfl ⟨vk rfl,trivial⟩)<|Sd (lo [] [] rfl fun S hs hr=>Z0i (xs:=[.const (Value.int IntKind.i64 12)]) (Zjg _ _ hx10) e96 rfl rfl ⟨vk rfl,trivial⟩)<|Sd (lo [24,25,26] [] rfl fun S hs hr=>Z0i (xs:=[.tmp 24,.const (Value.int IntKind.i64 5),.tmp 25,.tmp 26]) (Zc9 _ _ _ _ _ hx11) Zc4 rfl rfl ⟨vt ((hs 24 rfl).trans rfl),vk rfl,vt ((hs 25 rfl).trans rfl),vt ((hs 26 rfl).trans rfl),trivial⟩)<|SSt Z0h 4 rfl<|Sn<|SR<|Ld Z0h 4 rfl<|Zs Z0h 3 rfl<|Nl<|rt ?_
   cases h;exact Z9 Try.results107 rfl (Z09 rfl (i:=3) rfl Z0h)
  ·refine SR<|Ac (Z0l rfl rfl (vt rfl) (vk rfl)) rfl<|As rfl<|Nl<|Cq rfl h (fun h=>?_) (fun h=>?_)
   ·refine sq ?_
    obtain ⟨x12,hx12,x13,hx13,h⟩:=bs2 h
    refine AR Z0n (by kernel_rfl)<|SLd Z0h 4 rfl<|Sd (lo [] [] rfl fun S hs hr=>opb (⟨0,0⟩:Wide) Z2p rfl Z58 (pn rfl))<|Sd (lo [] [] rfl fun S hs hr=>Z0i (xs:=[.const (Value.int IntKind.i64 13)]) (Zdj _ _ hx12) Zdn rfl rfl ⟨vk rfl,trivial⟩)<|Sd (lo [30,31,32] [] rfl fun S hs hr=>Z0i (xs:=[.tmp 30,.const (Value.int IntKind.i64 5),.tmp 31,.tmp 32]) (Zc9 _ _ _ _ _ hx13) Zc4 rfl rfl ⟨vt ((hs 30 rfl).trans rfl),vk rfl,vt ((hs 31 rfl).trans rfl),vt ((hs 32 rfl).trans rfl),trivial⟩)<|SSt Z0h 4 rfl<|Sn ?_
    obtain ⟨x14,hx14,x15,hx15,h⟩:=bs2 h
    refine AR Z0n (by kernel_rfl)<|SLd Z0h 4 rfl<|Sd (lo [] [] rfl fun S hs hr=>opb (⟨0,0⟩:Wide) Z2p rfl Z58 (pn rfl))<|Sd (lo [] [] rfl fun S hs hr=>Z0i (xs:=[.const (Value.int IntKind.i64 3)]) (Zdj _ _ hx14) Zdn rfl rfl ⟨vk rfl,trivial⟩)<|Sd (lo [34,35,36] [] rfl fun S hs hr=>Z0i (xs:=[.tmp 34,.const (Value.int IntKind.i64 6),.tmp 35,.tmp 36]) (Zc9 _ _ _ _ _ hx15) Zc4 rfl rfl ⟨vt ((hs 34 rfl).trans rfl),vk rfl,vt ((hs 35 rfl).trans rfl),vt ((hs 36 rfl).trans rfl),trivial⟩)<|SSt Z0h 4 rfl<|Sn<|SR<|Ld Z0h 4 rfl<|Zs Z0h 3 rfl<|Nl<|rt ?_
    cases h;exact Z9 Try.results107 rfl (Z09 rfl (i:=3) rfl Z0h)
   ·refine sk<|SR<|Ld Z0h 4 rfl<|Zs Z0h 3 rfl<|Nl<|rt ?_
    cases h;exact Z9 Try.results107 rfl (Z09 rfl (i:=3) rfl Z0h)
def Z4i:(List Tern)→Nat→Z28→Option Z28
 | [],i8,b7=>some b7
 | x10::l9,i8,b7=>(chk 24 (i8:Int)).bind fun j12=>(Za5 (Vector.get b7 j12) x10.Mask).bind fun x13=>(Z9k x10.Value x10.Mask).bind fun x14=>(Z88 x13 x14).bind fun x15=>(chk 24 (i8:Int)).bind fun j16=>(Z4i l9) (i8+1) (Vector.set b7 j16.1 x15 j16.2)
def Zab (x1:Z2x)(x2:Z28):Option Z28:=
 Z4i (Vector.toList x1) 0 x2
theorem Zme:Q2 Try.prog 52 (rd (Zm 24 Z0j)) (rd (Zm 24 Zk)) (rd (Zm 24 Zk)) Zab:=fun x1 x2 r h=>I0 Try.func52 rfl Try.ntmps52 rfl fun w H=>by
 unfold Zab at h
 refine SR<|Cv rfl (Z00 3 rfl rfl (vt rfl)) fun g3=>Cv rfl (Z00 4 rfl rfl (vt rfl)) fun g4=>Cv rfl (Z05 5 rfl rfl Zho) fun g5=>Nl<|sq<|SR<|Ld Z0h 3 rfl<|Mk rfl<|Nl<|bk<|LG (d:=[]) (ν:=(List Tern)×Nat×Z28) (fun (l9,i8,b7)=>(Sfx (Vector.toList x1) i8 l9∧Z4i l9 i8 b7=some r,l9.length,[(3,Zp g4 (Lens.id (Zm 24 Zk))),(4,Zp g5 (Lens.id (Zm 24 Zk))),(7,rd (Zm 24 Z0j) x1),(8,rd (Z0 .i64) (i8:Int))],[(4,Blk g4 30 (Zm 24 Zk) b7),(5,Blk g5 30 (Zm 24 Zk) (Vector.replicate 24 Z1s))])) ((Vector.toList x1),0,x2) ⟨Sfx.start _,h⟩ (FX rfl) ?_
 rintro ⟨l9,i8,b7⟩ ⟨hsf1,h⟩
 dsimp only at hsf1 h ⊢
 cases l9 with
 | nil=>
  unfold Z4i at h
  refine SR<|Ac (Zh rfl rfl (vt rfl) (vk rfl)) rfl<|Nl<|sq<|Cn rfl (fun hc=>absurd (of_decide_eq_true hc) (hsf1.niln (by simp))) (fun hc=>?_)
  refine xt<|SR<|Ld Z1v 4 rfl<|Zs Z1v 5 rfl<|Nl<|rt ?_
  cases h;exact Z9 Try.results52 rfl (Z09 rfl (i:=5) rfl Z1v)
 | cons x10 l9=>
  unfold Z4i at h
  refine SR<|Ac (Zh rfl rfl (vt rfl) (vk rfl)) rfl<|Nl<|sq<|Cn rfl (fun hc=>?_) (fun hc=>absurd (hsf1.consn (by simp)) (of_decide_eq_false hc))
  have hlti8:=of_decide_eq_true hc
  refine sk<|sq<|bk<|SR<|Md rfl<|Ac (Zeu rfl rfl Za0 Z17 (vt rfl) (vt rfl) hsf1.lget) rfl<|Cv rfl (Z05 7 rfl rfl Z2s) fun g11=>As rfl<|Zs Z17 7 rfl<|Nl ?_
  obtain ⟨j12,hj12,x13,hx13,x14,hx14,x15,hx15,h⟩:=bs4 h
  obtain ⟨j16,hj16,h⟩:=Za h
  refine AR Z0n (by kernel_rfl)<|Zt rfl<|Zt rfl<|Sd (lo [3,13] [] rfl fun S hs hr=>Z3u rfl rfl Zel (vh hs 3 rfl rfl) (vh hs 13 rfl rfl) hj12)<|SLd Z0k 4 rfl<|SFd lTern_1 Z4g rfl<|SLd Z0k 7 rfl<|SCl [15,17] (Zji _ _ _ hx13) e83 rfl<|SFd lTern_0 Z9h rfl<|SLd Z0k 7 rfl<|SFd lTern_1 Z4g rfl<|SLd Z0k 7 rfl<|SCl [20,22] (Zhz _ _ _ hx14) e84 rfl<|SCl [18,23] (Zdu _ _ _ hx15) e82 rfl<|Sd (lo [3,12] [] rfl fun S hs hr=>Z3u rfl rfl Zel (vh hs 3 rfl rfl) (vh hs 12 rfl rfl) hj16)<|SSt Z0k 4 rfl<|Sn<|Rg<|Ac (Zb3 rfl rfl (vt rfl) (vk rfl) rfl hlti8) rfl<|Md rfl<|Nl ?_
  exact ⟨(_,_,_),Nat.lt_succ_self _,⟨hsf1.next,h⟩,FX rfl⟩
def Z4s (x5:(Group×Bool))(R_exec_run_do:(Zu→(List Action)→Option Zu))(x1:Zu):(List Int)→Nat→(List Out)→Env→(List Group)→Z28→Int→Option Zu
 | [],i21,l15,b17,b18,b19,b20=>some (⟨b17,b18,l15,b19,(IntKind.i64.wrap (b20 - 1))⟩:Zu)
 | x23::l22,i21,l15,b17,b18,b19,b20=>(lget x5.1.Buckets x23).bind fun x24=>(Zac [] x24.Acts).bind fun x25=>(Z8k x25).bind fun x26=>(R_exec_run_do (⟨b17,b18,l15,b19,b20⟩:Zu) x26).bind fun b27=>(Z4s x5 R_exec_run_do x1 l22) (i21+1) b27.out b27.Env b27.groups x1.header b27.depth
def Z5l (R_exec_run_do:(Zu→(List Action)→Option Zu))(R_exec_run_group:(Zu→Int→Option Zu))(x1:Zu)(i4:Int):Option Zu:=
 (Za4 x1.groups i4).bind fun x5=>(bif ((!x5.2)||(decide (x1.depth≥8))) then some (⟨x1.Env,x1.groups,x1.out,x1.header,x1.depth⟩:Zu) else (Zai x1.Env x5.1).bind fun x8=>Z4s x5 R_exec_run_do x1 x8 0 x1.out x1.Env x1.groups x1.header (IntKind.i64.wrap (x1.depth+1)))
theorem Zku (R_exec_run_do:(Zu→(List Action)→Option Zu))(hR_exec_run_do:∀(g2 gT:Nat) (x1:Zu) (a4:(List Action)) (r:Zu),R_exec_run_do x1 a4=some r→Con Try.prog 77 [Zp g2 (Lens.id Z0b),rd (Z2 Z3) a4] (Z0o g2 gT Z0b (fun v=>(⟨x1.Env,x1.groups,v,x1.header,x1.depth⟩:exec_run_o2)) 87 Z0c x1.out) (fun _:Unit=>top) (fun _=>Z0o g2 gT Z0b (fun v=>(⟨r.Env,r.groups,v,r.header,r.depth⟩:exec_run_o2)) 87 Z0c r.out))(R_exec_run_group:(Zu→Int→Option Zu))(hR_exec_run_group:∀(g2 gT:Nat) (x1:Zu) (i4:Int) (r:Zu),R_exec_run_group x1 i4=some r→Con Try.prog 44 [Zp g2 (Lens.id Z0b),rd (Z0 .i64) i4] (Z0o g2 gT Z0b (fun v=>(⟨x1.Env,x1.groups,v,x1.header,x1.depth⟩:exec_run_o2)) 87 Z0c x1.out) (fun _:Unit=>top) (fun _=>Z0o g2 gT Z0b (fun v=>(⟨r.Env,r.groups,v,r.header,r.depth⟩:exec_run_o2)) 87 Z0c r.out))(g2 gT:Nat)(x1:Zu)(i4:Int)(r:Zu)(h:Z5l R_exec_run_do R_exec_run_group x1 i4=some r):Con Try.prog 44 [Zp g2 (Lens.id Z0b),rd (Z0 .i64) i4] (Z0o g2 gT Z0b (fun v=>(⟨x1.Env,x1.groups,v,x1.header,x1.depth⟩:exec_run_o2)) 87 Z0c x1.out) (fun _:Unit=>top) (fun _=>Z0o g2 gT Z0b (fun v=>(⟨r.Env,r.groups,v,r.header,r.depth⟩:exec_run_o2)) 87 Z0c r.out):=by
 refine Con.intro Try.func44 rfl Try.ntmps44 rfl fun w H X=>?_
 unfold Z5l at h
 refine AW.unboxF 0 2002 (by decide) rfl rfl fun v3=>sq ?_
 obtain ⟨x5,hx5,h⟩:=Za h
 refine Rg<|Mp rfl<|Nc rfl<|Zo lexec_run_o2_1 Zqx rfl<|Ld Zca 0 rfl<|Md rfl<|Cl [13,14] (Zoc _ _ _ hx5) e75 rfl<|Mt2 rfl<|Ac (Ztr rfl rfl (vt rfl)) rfl<|Ac (Zol rfl rfl (vt rfl)) rfl<|Cv rfl (Z05 5 rfl rfl Z32) fun g6=>Zs Z1l 5 rfl<|As rfl<|Nl<|sq<|SR<|Md rfl<|Ac (Z1g rfl rfl (vt rfl)) rfl<|Md rfl<|Gd rfl (fun hq=>Ze (A:=Zp g2 (Lens.id Z0b)) rfl rfl (vt rfl))<|Gd rfl (fun hq=>Zee rfl rfl (Z8 rfl hq))<|Gd rfl (fun hq=>Z2e Z79 rfl rfl Z9u (Z8 rfl hq))<|Gd rfl (fun hq=>Z22 rfl rfl Zl (Z8 rfl hq) (i:=0) rfl)<|Gd rfl (fun hq=>Z33 rfl rfl (Z8 rfl hq) (vk rfl))<|Ac (Z2t rfl rfl (vt rfl) (vt rfl)) rfl<|Nl<|Cq rfl h (fun h=>?_) (fun h=>?_)
 ·refine rt ?_
  cases h;exact RetOK.turn (Turn.packF 0 2002 (fun v=>(⟨x1.Env,x1.groups,v,x1.header,x1.depth⟩:exec_run_o2)) (by decide) rfl rfl) (Z2g (i:=0) Try.results44 rfl rfl)
 ·refine sk<|SR<|Mp rfl<|Nc rfl<|Zo lexec_run_o2_3 Z9v rfl<|Ld Z1v 0 rfl<|Cv rfl (Z05 7 rfl rfl Zho) fun g7=>Zs Z1v 7 rfl<|Nl<|SR<|Mp rfl<|Nc rfl<|Zo Z79 Z9u rfl<|Ld Zl 0 rfl<|Ac (Zx rfl rfl (vt rfl) (vk rfl)) rfl<|Nc rfl<|Zo Z79 Z9u rfl<|Zs Zl 0 rfl<|Nl<|sq<|sq ?_
  obtain ⟨x8,hx8,h⟩:=Za h
  refine AR Z0n (by kernel_rfl)<|SMp rfl<|SNc rfl<|SFd lexec_run_o2_0 Zok rfl<|SLd Z1h 0 rfl<|SLd Z1l 5 rfl<|SCl [41,42] (Zp0 _ _ _ hx8) e76 rfl<|Sd (lo [43] [] rfl fun S hs hr=>Z0a rfl rfl Z06 (vh hs 43 rfl rfl))<|Sd (lo [] [] rfl fun S hs hr=>Ze (A:=rd (Z0 .i64) 0) rfl rfl (vk rfl))<|Sn<|bk<|LG (d:=[]) (ν:=(List Int)×Nat×(List Out)×Env×(List Group)×Z28×Int×Value) (fun (l22,i21,l15,b17,b18,b19,b20,v16)=>(Sfx x8 i21 l22∧Z4s x5 R_exec_run_do x1 l22 i21 l15 b17 b18 b19 b20=some r,l22.length,[(0,Zp g2 (Lens.id Z0b)),(4,Zp g6 (Lens.id Zd)),(6,Zp g7 (Lens.id (Zm 24 Zk))),(43,rd (Z2 (Z0 .i64)) x8),(44,rd (Z0 .i64) (x8.length:Int)),(45,rd (Z0 .i64) (i21:Int))],[(0,Blk g2 gT Z0b (⟨b17,b18,v16,b19,b20⟩:exec_run_o2)),(5,Blk g6 63 Zd x5.1),(7,Blk g7 30 (Zm 24 Zk) x1.header),(2002,Zb v16 87 Z0c l15)])) (x8,0,x1.out,x1.Env,x1.groups,x1.header,(IntKind.i64.wrap (x1.depth+1)),v3) ⟨Sfx.start _,h⟩ (FX rfl) ?_
  rintro ⟨l22,i21,l15,b17,b18,b19,b20,v16⟩ ⟨hsf1,h⟩
  dsimp only at hsf1 h ⊢
  cases l22 with
  | nil=>
   unfold Z4s at h
   refine SR<|Ac (Zh rfl rfl (vt rfl) (vt rfl)) rfl<|Nl<|sq<|Cn rfl (fun hc=>absurd (of_decide_eq_true hc) hsf1.nil) (fun hc=>?_)
   refine xt<|Rg<|Mp rfl<|Nc rfl<|Zo Z79 Z9u rfl<|Ld Zl 0 rfl<|Ac (Z0x rfl rfl (vt rfl) (vk rfl)) rfl<|Nc rfl<|Zo Z79 Z9u rfl<|Zs Zl 0 rfl<|Nl ?_
   cases h;exact RetOK.turn (Turn.packF 0 2002 (fun v=>(⟨b17,b18,v,b19,(IntKind.i64.wrap (b20 - 1))⟩:exec_run_o2)) (by decide) rfl rfl) (Z2g (i:=0) Try.results44 rfl rfl)
  | cons x23 l22=>
   unfold Z4s at h
   refine SR<|Ac (Zh rfl rfl (vt rfl) (vt rfl)) rfl<|Nl<|sq<|Cn rfl (fun hc=>?_) (fun hc=>absurd hsf1.cons (of_decide_eq_false hc))
   have hlti21:=of_decide_eq_true hc
   refine sk<|sq<|bk<|SR<|Ac (Z0e rfl rfl Z06 (vt rfl) (vt rfl) hsf1.lget) rfl<|Lp1 Zl rfl<|As rfl<|Nl<|sq ?_
   obtain ⟨x24,hx24,x25,hx25,x26,hx26,b27,hb27,h⟩:=bs4 h
   refine Rg<|Mp rfl<|Zo lGroup_2 Z2l rfl<|Ld Z2o 5 rfl<|Md rfl<|Ac (Z0e rfl rfl Z18 (vt rfl) (vt rfl) hx24) rfl<|Fp Z7n Zar rfl<|Lp1 Z9l rfl<|Ac (Z0i (xs:=[.const (Value.slice none 0 0),.tmp 55]) (Zr5 _ _ _ hx25) e79 rfl rfl ⟨Z1n,vt rfl,trivial⟩) rfl<|Cl [56] (Zl0 _ _ hx26) e78 rfl<|AOps.packF 0 2002 (fun v=>(⟨b17,b18,v,b19,b20⟩:exec_run_o2)) (by decide) rfl rfl<|Cv rfl (Z13 0 (xs:=[.tmp 49,.tmp 57]) (hR_exec_run_do _ _ _ _ _ hb27) e77 rfl rfl ⟨vt rfl,vt rfl,trivial⟩ rfl) fun _u=>AOps.unboxF 0 2002 (by decide) rfl rfl fun v28=>Nl<|Rg<|Mp rfl<|Ld Z1v 7 rfl<|Nc rfl<|Zo lexec_run_o2_3 Z9v rfl<|Zs Z1v 0 rfl<|Nl<|Rg<|Ac (Z10 (t:=44) rfl rfl (vt rfl) (vk rfl) (vt rfl) hlti21) rfl<|Md rfl<|Nl ?_
   exact ⟨(_,_,_,_,_,_,_,_),Nat.lt_succ_self _,⟨hsf1.next,h⟩,FX rfl⟩
def Z3b (R_exec_run_group:(Zu→Int→Option Zu)):(List Action)→Nat→(List Out)→Env→(List Group)→Z28→Int→Option Zu
 | [],i17,l11,b13,b14,b15,b16=>some (⟨b13,b14,l11,b15,b16⟩:Zu)
 | x19::l18,i17,l11,b13,b14,b15,b16=>(bif (decide (x19.Kind=0)) then (Z9m x19).bind fun x21=>(Z1j l11 [(⟨x19.Port,x21,b15⟩:Out)]).bind fun l22=>(Z3b R_exec_run_group l18) (i17+1) l22 b13 b14 b15 b16 else (bif (decide (x19.Kind=22)) then (R_exec_run_group (⟨b13,b14,l11,b15,b16⟩:Zu) x19.Group).bind fun b24=>(Z3b R_exec_run_group l18) (i17+1) b24.out b24.Env b24.groups b24.header b24.depth else (Z8m x19).bind fun x26=>(Zab x26 b15).bind fun x27=>(Z3b R_exec_run_group l18) (i17+1) l11 b13 b14 x27 b16))
def Z5q (R_exec_run_do:(Zu→(List Action)→Option Zu))(R_exec_run_group:(Zu→Int→Option Zu))(x1:Zu)(a4:(List Action)):Option Zu:=
 Z3b R_exec_run_group a4 0 x1.out x1.Env x1.groups x1.header x1.depth
theorem Zr7 (R_exec_run_do:(Zu→(List Action)→Option Zu))(hR_exec_run_do:∀(g2 gT:Nat) (x1:Zu) (a4:(List Action)) (r:Zu),R_exec_run_do x1 a4=some r→Con Try.prog 77 [Zp g2 (Lens.id Z0b),rd (Z2 Z3) a4] (Z0o g2 gT Z0b (fun v=>(⟨x1.Env,x1.groups,v,x1.header,x1.depth⟩:exec_run_o2)) 87 Z0c x1.out) (fun _:Unit=>top) (fun _=>Z0o g2 gT Z0b (fun v=>(⟨r.Env,r.groups,v,r.header,r.depth⟩:exec_run_o2)) 87 Z0c r.out))(R_exec_run_group:(Zu→Int→Option Zu))(hR_exec_run_group:∀(g2 gT:Nat) (x1:Zu) (i4:Int) (r:Zu),R_exec_run_group x1 i4=some r→Con Try.prog 44 [Zp g2 (Lens.id Z0b),rd (Z0 .i64) i4] (Z0o g2 gT Z0b (fun v=>(⟨x1.Env,x1.groups,v,x1.header,x1.depth⟩:exec_run_o2)) 87 Z0c x1.out) (fun _:Unit=>top) (fun _=>Z0o g2 gT Z0b (fun v=>(⟨r.Env,r.groups,v,r.header,r.depth⟩:exec_run_o2)) 87 Z0c r.out))(g2 gT:Nat)(x1:Zu)(a4:(List Action))(r:Zu)(h:Z5q R_exec_run_do R_exec_run_group x1 a4=some r):Con Try.prog 77 [Zp g2 (Lens.id Z0b),rd (Z2 Z3) a4] (Z0o g2 gT Z0b (fun v=>(⟨x1.Env,x1.groups,v,x1.header,x1.depth⟩:exec_run_o2)) 87 Z0c x1.out) (fun _:Unit=>top) (fun _=>Z0o g2 gT Z0b (fun v=>(⟨r.Env,r.groups,v,r.header,r.depth⟩:exec_run_o2)) 87 Z0c r.out):=by
 refine Con.intro Try.func77 rfl Try.ntmps77 rfl fun w H X=>?_
 unfold Z5q at h
 refine AW.unboxF 0 2002 (by decide) rfl rfl fun v3=>SR<|Md rfl<|Ac (Z0a rfl rfl Z04 (vt rfl)) rfl<|Mk rfl<|Nl<|bk<|LG (d:=[]) (ν:=(List Action)×Nat×(List Out)×Env×(List Group)×Z28×Int×Value) (fun (l18,i17,l11,b13,b14,b15,b16,v12)=>(Sfx a4 i17 l18∧Z3b R_exec_run_group l18 i17 l11 b13 b14 b15 b16=some r,l18.length,[(0,Zp g2 (Lens.id Z0b)),(6,rd (Z2 Z3) a4),(7,rd (Z0 .i64) (a4.length:Int)),(8,rd (Z0 .i64) (i17:Int))],[(0,Blk g2 gT Z0b (⟨b13,b14,v12,b15,b16⟩:exec_run_o2)),(2002,Zb v12 87 Z0c l11)])) (a4,0,x1.out,x1.Env,x1.groups,x1.header,x1.depth,v3) ⟨Sfx.start _,h⟩ (FX rfl) ?_
 rintro ⟨l18,i17,l11,b13,b14,b15,b16,v12⟩ ⟨hsf1,h⟩
 dsimp only at hsf1 h ⊢
 cases l18 with
 | nil=>
  unfold Z3b at h
  refine SR<|Ac (Zh rfl rfl (vt rfl) (vt rfl)) rfl<|Nl<|sq<|Cn rfl (fun hc=>absurd (of_decide_eq_true hc) hsf1.nil) (fun hc=>?_)
  refine xt ?_
  cases h;exact RetOK.turn (Turn.packF 0 2002 (fun v=>(⟨b13,b14,v,b15,b16⟩:exec_run_o2)) (by decide) rfl rfl) (Z2g (i:=0) Try.results77 rfl rfl)
 | cons x19 l18=>
  unfold Z3b at h
  refine SR<|Ac (Zh rfl rfl (vt rfl) (vt rfl)) rfl<|Nl<|sq<|Cn rfl (fun hc=>?_) (fun hc=>absurd hsf1.cons (of_decide_eq_false hc))
  have hlti17:=of_decide_eq_true hc
  refine sk<|sq<|bk<|SR<|Ac (Z0e rfl rfl Z04 (vt rfl) (vt rfl) hsf1.lget) rfl<|Lp1 Z07 rfl<|Cv rfl (Z05 6 rfl rfl Z70) fun g20=>Zs Z07 6 rfl<|Nl<|SR<|Zo Z38 Z3p rfl<|Ld Zl 6 rfl<|Nl<|bk<|SR<|Ac (Z0l rfl rfl (vt rfl) (vk rfl)) rfl<|As rfl<|Nl<|Cq rfl h (fun h=>?_) (fun h=>?_)
  ·obtain ⟨x21,hx21,l22,hl22,h⟩:=bs2 h
   refine AR Z0n (by kernel_rfl)<|SMp rfl<|SMp rfl<|SNc rfl<|SFd Z98 Zd4 rfl<|Sd (lo [29] [0] rfl fun S hs hr=>Zkf v12 rfl rfl Zf8 (vh hs 29 rfl rfl) (i:=0) ((hr 0 rfl).trans rfl) rfl)<|SFd Zd8 Zk1 rfl<|SLd Zl 6 rfl<|SLd Z07 6 rfl<|SCl [33] (Zr1 _ _ hx21) Zsd rfl<|SMp rfl<|SNc rfl<|SFd lexec_run_o2_3 Z9v rfl<|SLd Z1v 0 rfl<|Sd (lo [32,34,38] [] rfl fun S hs hr=>opb (⟨x19.Port,x21,b15⟩:Out) Zjq rfl Zq0 (pc Zta (vh hs 32 rfl rfl)<|pc Zrj (vh hs 34 rfl rfl)<|pc Zkp (vh hs 38 rfl rfl)<|pn rfl))<|Sd (lo [39] [] rfl fun S hs hr=>osl Z3g Zjq rfl (vh hs 39 rfl rfl))<|Sd (Z74 (us:=[(41,Z7r 87 Z0c l22)]) (ur:=[(2002,emp)]) [30,40] [2002] rfl fun S hs hr=>Zkl 2002 hl22 rfl rfl rfl Zlo (vh hs 30 rfl rfl) ((hr 2002 rfl).trans rfl) (vh hs 40 rfl rfl))<|SNc rfl<|SFd Z98 Zd4 rfl<|Sd (Z74 (us:=[(41,top)]) (ur:=[(0,Z0o g2 gT Z0b (fun v=>((Lens.comp (Lens.id Z0b) Z98)).set (⟨b13,b14,v12,b15,b16⟩:exec_run_o2) v) 87 Z0c l22)]) [43,41] [0] rfl fun S hs hr=>Ztn rfl rfl Zf8 (vh hs 43 rfl rfl) ((hr 0 rfl).trans rfl) ((hs 41 rfl).trans rfl))<|Sn<|AW.unboxF 0 2002 (by decide) rfl rfl fun v23=>Rg<|Ac (Z10 (t:=7) rfl rfl (vt rfl) (vk rfl) (vt rfl) hlti17) rfl<|Md rfl<|Nl ?_
   exact ⟨(_,_,_,_,_,_,_,_),Nat.lt_succ_self _,⟨hsf1.next,h⟩,FX rfl⟩
  ·refine SR<|Ac (Z0l rfl rfl (vt rfl) (vk rfl)) rfl<|As rfl<|Nl<|Cq rfl h (fun h=>?_) (fun h=>?_)
   ·obtain ⟨b24,hb24,h⟩:=Za h
    refine Rg<|Mp rfl<|Zo Zda Zfp rfl<|Ld Zl 6 rfl<|AOps.packF 0 2002 (fun v=>(⟨b13,b14,v,b15,b16⟩:exec_run_o2)) (by decide) rfl rfl<|Cv rfl (Z13 0 (xs:=[.tmp 46,.tmp 48]) (hR_exec_run_group _ _ _ _ _ hb24) e44 rfl rfl ⟨vt rfl,vt rfl,trivial⟩ rfl) fun _u=>AOps.unboxF 0 2002 (by decide) rfl rfl fun v25=>Nl<|Rg<|Ac (Z10 (t:=7) rfl rfl (vt rfl) (vk rfl) (vt rfl) hlti17) rfl<|Md rfl<|Nl ?_
    exact ⟨(_,_,_,_,_,_,_,_),Nat.lt_succ_self _,⟨hsf1.next,h⟩,FX rfl⟩
   ·obtain ⟨x26,hx26,x27,hx27,h⟩:=bs2 h
    refine AR Z0n (by kernel_rfl)<|SMp rfl<|SLd Z07 6 rfl<|SCl [15] (Zsz _ _ hx26) Znr rfl<|SMp rfl<|SNc rfl<|SFd lexec_run_o2_3 Z9v rfl<|SLd Z1v 0 rfl<|SCl [16,20] (Zme _ _ _ hx27) e52 rfl<|SNc rfl<|SFd lexec_run_o2_3 Z9v rfl<|SSt Z1v 0 rfl<|Sn<|Rg<|Ac (Z10 (t:=7) rfl rfl (vt rfl) (vk rfl) (vt rfl) hlti17) rfl<|Md rfl<|Nl ?_
    exact ⟨(_,_,_,_,_,_,_,_),Nat.lt_succ_self _,⟨hsf1.next,h⟩,FX rfl⟩
def Z11:Nat→(Zu→(List Action)→Option Zu)×(Zu→Int→Option Zu)
 | 0=>((fun _ _=>none),(fun _ _=>none))
 | n+1=>((Z5q (Z11 n).1 (Z11 n).2),(Z5l (Z11 n).1 (Z11 n).2))
theorem Zgf:∀n:Nat,(∀(g2 gT:Nat) (x1:Zu) (a4:(List Action)) (r:Zu),(Z11 n).1 x1 a4=some r→Con Try.prog 77 [Zp g2 (Lens.id Z0b),rd (Z2 Z3) a4] (Z0o g2 gT Z0b (fun v=>(⟨x1.Env,x1.groups,v,x1.header,x1.depth⟩:exec_run_o2)) 87 Z0c x1.out) (fun _:Unit=>top) (fun _=>Z0o g2 gT Z0b (fun v=>(⟨r.Env,r.groups,v,r.header,r.depth⟩:exec_run_o2)) 87 Z0c r.out))∧(∀(g2 gT:Nat) (x1:Zu) (i4:Int) (r:Zu),(Z11 n).2 x1 i4=some r→Con Try.prog 44 [Zp g2 (Lens.id Z0b),rd (Z0 .i64) i4] (Z0o g2 gT Z0b (fun v=>(⟨x1.Env,x1.groups,v,x1.header,x1.depth⟩:exec_run_o2)) 87 Z0c x1.out) (fun _:Unit=>top) (fun _=>Z0o g2 gT Z0b (fun v=>(⟨r.Env,r.groups,v,r.header,r.depth⟩:exec_run_o2)) 87 Z0c r.out))
 | 0=>⟨(by intros;rename_i h;cases h),(by intros;rename_i h;cases h)⟩
 | n+1=>by
  have ih:=Zgf n
  exact ⟨(Zr7 (Z11 n).1 ih.1 (Z11 n).2 ih.2),(Zku (Z11 n).1 ih.1 (Z11 n).2 ih.2)⟩
def Zdo (x1:Zu)(i4:Int):Option Zu:=(Z11 Z1p).2 x1 i4
theorem Zkh:∀(g2 gT:Nat) (x1:Zu) (i4:Int) (r:Zu),Zdo x1 i4=some r→Con Try.prog 44 [Zp g2 (Lens.id Z0b),rd (Z0 .i64) i4] (Z0o g2 gT Z0b (fun v=>(⟨x1.Env,x1.groups,v,x1.header,x1.depth⟩:exec_run_o2)) 87 Z0c x1.out) (fun _:Unit=>top) (fun _=>Z0o g2 gT Z0b (fun v=>(⟨r.Env,r.groups,v,r.header,r.depth⟩:exec_run_o2)) 87 Z0c r.out):=(Zgf Z1p).2
def Z7w (l1:(List Group))(x2:Env)(i3:Int)(x4:Z28):Option (List Out):=
 (Zdo (⟨x2,l1,[],x4,0⟩:Zu) i3).bind fun b8=>some b8.out
theorem Zir:Q4 Try.prog 15 (rd (Z2 Zd)) (rd Zn) (rd (Z0 .i64)) (rd (Zm 24 Zk)) (rd (Z2 Z0c)) Z7w:=fun l1 x2 i3 x4 r h=>I0 Try.func15 rfl Try.ntmps15 rfl fun w H=>by
 unfold Z7w at h
 refine SR<|Cv rfl (Z00 6 rfl rfl (vt rfl)) fun g5=>Cv rfl (Z00 8 rfl rfl (vt rfl)) fun g6=>Ac (Z0d (A:=rd (Z2 Z0c) []) rfl rfl Z1n) rfl<|Nl<|sq<|AW.newnil 2302 87 Z0c<|Rg<|Ld Z1h 6 rfl<|Md rfl<|Ld Z1v 8 rfl<|Ac (opb (⟨x2,l1,(.slice none 0 0),x4,0⟩:exec_run_o2) Zrf rfl Zo8 (pc Znz (vt rfl)<|pc Zph (vt rfl)<|pc Zpj (vt rfl)<|pn rfl)) rfl<|Cv rfl (Z00 15 rfl rfl (vt rfl)) fun g7=>Ac (Z0d (A:=Zp g7 (Lens.id Z0b)) rfl rfl (vt rfl)) rfl<|Nl<|sq ?_
 obtain ⟨b8,hb8,h⟩:=Za h
 refine Rg<|Mp rfl<|Md rfl<|AOps.packF 15 2302 (fun v=>(⟨x2,l1,v,x4,0⟩:exec_run_o2)) (by decide) rfl rfl<|Cv rfl (Z13 15 (xs:=[.tmp 15,.tmp 16]) (Zkh _ _ _ _ _ hb8) e44 rfl rfl ⟨vt rfl,vt rfl,trivial⟩ rfl) fun _u=>AOps.unboxF 15 2302 (by decide) rfl rfl fun v9=>Nl<|SR<|Mp rfl<|Nc rfl<|Zo Z98 Zd4 rfl<|Ac (Zkf v9 rfl rfl Zf8 (vt rfl) (i:=15) rfl rfl) rfl<|Aw rfl<|Nl<|AW.freezes [8,21] 2302 rfl ⟨rfl,rfl,trivial⟩ rfl<|rt ?_
 cases h;exact Z9 Try.results15 rfl (Zg rfl)
def Z8a (a1:(List Out))(b2:(List Out)):Nat→Int→Option Bool
 | 0,_=>none
 | m5+1,i4=>(bif (decide (i4<(a1.length:Int))) then (lget a1 i4).bind fun x6=>(lget b2 i4).bind fun x7=>(opt (!(decide (x6.Port≠x7.Port))) (lget a1 i4)).bind fun x8=>(opt (!(decide (x6.Port≠x7.Port))) (lget b2 i4)).bind fun x9=>(opt (!((decide (x6.Port≠x7.Port))||(decide (x8.Max≠x9.Max)))) (lget a1 i4)).bind fun x10=>(opt (!((decide (x6.Port≠x7.Port))||(decide (x8.Max≠x9.Max)))) (lget b2 i4)).bind fun x11=>(bif (((decide (x6.Port≠x7.Port))||(decide (x8.Max≠x9.Max)))||(decide (x10.Header≠x11.Header))) then some false else (Z8a a1 b2 m5) (IntKind.i64.wrap (i4+1))) else some true)
def Zah (a1:(List Out))(b2:(List Out)):Option Bool:=
 (bif (decide ((a1.length:Int)≠(b2.length:Int))) then some false else Z8a a1 b2 ((((a1.length:Int):Int) - 0).toNat+1) 0)
theorem Zt1:Q2 Try.prog 14 (rd (Z2 Z0c)) (rd (Z2 Z0c)) (rd Z5) Zah:=fun a1 b2 r h=>I0 Try.func14 rfl Try.ntmps14 rfl fun w H=>by
 unfold Zah at h
 refine SR<|Ab rfl<|Nl<|sq<|SR<|Md rfl<|Ac (Z0a rfl rfl Z3g (vt rfl)) rfl<|Md rfl<|Ac (Z0a rfl rfl Z3g (vt rfl)) rfl<|Ac (Z1x rfl rfl (vt rfl) (vt rfl)) rfl<|Nl<|Cq rfl h (fun h=>?_) (fun h=>?_)
 ·refine SR<|Ab rfl<|Nl<|rt ?_
  cases h;exact Z9 Try.results14 rfl (Zg rfl)
 ·refine sk<|sq<|SR<|Ak rfl<|Nl<|bk<|LG (d:=[]) (ν:=Nat×Int) (fun (m5,i4)=>(True∧Z8a a1 b2 m5 i4=some r,m5,[(0,rd (Z2 Z0c) a1),(1,rd (Z2 Z0c) b2),(5,rd (Z0 .i64) i4)],[])) (((((a1.length:Int):Int) - 0).toNat+1),0) ⟨trivial,h⟩ (FX rfl) ?_
  rintro ⟨m5,i4⟩ ⟨hsf1,h⟩
  dsimp only at h ⊢
  cases m5 with
  | zero=>cases h
  | succ m5=>
   unfold Z8a at h
   refine sq<|SR<|Md rfl<|Md rfl<|Ac (Z0a rfl rfl Z3g (vt rfl)) rfl<|Ac (Zh rfl rfl (vt rfl) (vt rfl)) rfl<|Nl<|Cq rfl h (fun h=>?_) (fun h=>?_)
   ·refine sk<|sq<|bk<|sq ?_
    obtain ⟨x6,hx6,x7,hx7,x8,hx8,x9,hx9,h⟩:=bs4 h
    obtain ⟨x10,hx10,x11,hx11,h⟩:=bs2 h
    refine AR Z0n (by kernel_rfl)<|Zt rfl<|Zt rfl<|Sd (lo [17,18] [] rfl fun S hs hr=>Z0e rfl rfl Z3g (vh hs 17 rfl rfl) (vh hs 18 rfl rfl) hx6)<|SFp lOut_0 Zio rfl<|SLp Zl rfl<|Zt rfl<|Zt rfl<|Sd (lo [22,23] [] rfl fun S hs hr=>Z0e rfl rfl Z3g (vh hs 22 rfl rfl) (vh hs 23 rfl rfl) hx7)<|SFp lOut_0 Zio rfl<|SLp Zl rfl<|Sd (lo [21,26] [] rfl fun S hs hr=>Z1x rfl rfl (vh hs 21 rfl rfl) (vh hs 26 rfl rfl))<|Zt rfl<|Sd (lg [0,28] [] rfl fun hq S hs hr=>Ze (A:=rd (Z2 Z0c) a1) rfl rfl (vh hs 0 rfl rfl))<|Sd (lg [5,28] [] rfl fun hq S hs hr=>Ze (A:=rd (Z0 .i64) i4) rfl rfl (vh hs 5 rfl rfl))<|Sd (lg [29,30,28] [] rfl fun hq S hs hr=>Z0e rfl rfl Z3g (Z8 ((hs 29 rfl).trans rfl) hq) (Z8 ((hs 30 rfl).trans rfl) hq) (Z2v hx8 hq))<|Sd (lg [31,28] [] rfl fun hq S hs hr=>Z2k lOut_1 rfl rfl Zjt (Z8 ((hs 31 rfl).trans rfl) hq))<|Sd (lg [32,28] [] rfl fun hq S hs hr=>Z2b rfl rfl Zl (Z8 ((hs 32 rfl).trans rfl) hq))<|Sd (lg [1,28] [] rfl fun hq S hs hr=>Ze (A:=rd (Z2 Z0c) b2) rfl rfl (vh hs 1 rfl rfl))<|Sd (lg [5,28] [] rfl fun hq S hs hr=>Ze (A:=rd (Z0 .i64) i4) rfl rfl (vh hs 5 rfl rfl))<|Sd (lg [34,35,28] [] rfl fun hq S hs hr=>Z0e rfl rfl Z3g (Z8 ((hs 34 rfl).trans rfl) hq) (Z8 ((hs 35 rfl).trans rfl) hq) (Z2v hx9 hq))<|Sd (lg [36,28] [] rfl fun hq S hs hr=>Z2k lOut_1 rfl rfl Zjt (Z8 ((hs 36 rfl).trans rfl) hq))<|Sd (lg [37,28] [] rfl fun hq S hs hr=>Z2b rfl rfl Zl (Z8 ((hs 37 rfl).trans rfl) hq))<|Sd (lg [33,38,28] [] rfl fun hq S hs hr=>Z1x rfl rfl (Z8 ((hs 33 rfl).trans rfl) hq) (Z8 ((hs 38 rfl).trans rfl) hq))<|Sd (lo [39,28] [] rfl fun S hs hr=>Z2t rfl rfl (vh hs 28 rfl rfl) (vh hs 39 rfl rfl))<|Zt rfl<|Sd (lg [0,41] [] rfl fun hq S hs hr=>Ze (A:=rd (Z2 Z0c) a1) rfl rfl (vh hs 0 rfl rfl))<|Sd (lg [5,41] [] rfl fun hq S hs hr=>Ze (A:=rd (Z0 .i64) i4) rfl rfl (vh hs 5 rfl rfl))<|Sd (lg [42,43,41] [] rfl fun hq S hs hr=>Z0e rfl rfl Z3g (Z8 ((hs 42 rfl).trans rfl) hq) (Z8 ((hs 43 rfl).trans rfl) hq) (Z2v hx10 hq))<|Sd (lg [44,41] [] rfl fun hq S hs hr=>Z2k lOut_2 rfl rfl Zii (Z8 ((hs 44 rfl).trans rfl) hq))<|Sd (lg [45,41] [] rfl fun hq S hs hr=>Z2b rfl rfl Z1v (Z8 ((hs 45 rfl).trans rfl) hq))<|Sd (lg [1,41] [] rfl fun hq S hs hr=>Ze (A:=rd (Z2 Z0c) b2) rfl rfl (vh hs 1 rfl rfl))<|Sd (lg [5,41] [] rfl fun hq S hs hr=>Ze (A:=rd (Z0 .i64) i4) rfl rfl (vh hs 5 rfl rfl))<|Sd (lg [47,48,41] [] rfl fun hq S hs hr=>Z0e rfl rfl Z3g (Z8 ((hs 47 rfl).trans rfl) hq) (Z8 ((hs 48 rfl).trans rfl) hq) (Z2v hx11 hq))<|Sd (lg [49,41] [] rfl fun hq S hs hr=>Z2k lOut_2 rfl rfl Zii (Z8 ((hs 49 rfl).trans rfl) hq))<|Sd (lg [50,41] [] rfl fun hq S hs hr=>Z2b rfl rfl Z1v (Z8 ((hs 50 rfl).trans rfl) hq))<|Sd (lg [46,51,41] [] rfl fun hq S hs hr=>Zl9 rfl rfl Zra (by decide) rfl Zpy (Z8 ((hs 46 rfl).trans rfl) hq) (Z8 ((hs 51 rfl).trans rfl) hq))<|Sd (lo [52,41] [] rfl fun S hs hr=>Z2t rfl rfl (vh hs 41 rfl rfl) (vh hs 52 rfl rfl))<|Sn ?_
    refine Cq rfl h (fun h=>?_) (fun h=>?_)
    ·refine SR<|Ab rfl<|Nl<|rt ?_
     cases h;exact Z9 Try.results14 rfl (Zg rfl)
    ·refine sk<|Rg<|Md rfl<|Ac (Zx rfl rfl (vt rfl) (vk rfl)) rfl<|As rfl<|Nl ?_
     exact ⟨(_,_),Nat.lt_succ_self _,⟨trivial,h⟩,FX rfl⟩
   ·refine xt<|SR<|Ab rfl<|Nl<|rt ?_
    cases h;exact Z9 Try.results14 rfl (Zg rfl)
def Z9c (l1:(List Group))(x2:Env)(i3:Int)(x4:Z28):Option Bool:=
 (Zaj l1 8 4).bind fun x7=>(bif ((!x7)||(decide ((x2.Down.length:Int)>40))) then (Z80).bind fun x8=>some x8 else (Z8c x2 l1).bind fun x9=>(Z7q l1).bind fun x11=>(Zb8 x11 (fun x=>Z7x x x9)).bind fun x12=>(bif (!x12) then some false else (Zbk l1).bind fun x13=>(bif (!x13) then (Z80).bind fun x14=>some x14 else (Z7w l1 x2 i3 x4).bind fun x15=>(Z7w l1 x9 i3 x4).bind fun x16=>(Zah x15 x16).bind fun x17=>(opt x17 (Z80)).bind fun x18=>some (x17&&x18))))
theorem Zmz:Q4 Try.prog 3 (rd (Z2 Zd)) (rd Zn) (rd (Z0 .i64)) (rd (Zm 24 Zk)) (rd Z5) Z9c:=fun l1 x2 i3 x4 r h=>I0 Try.func3 rfl Try.ntmps3 rfl fun w H=>by
 unfold Z9c at h
 refine SR<|Cv rfl (Z00 6 rfl rfl (vt rfl)) fun g5=>Cv rfl (Z00 8 rfl rfl (vt rfl)) fun g6=>Ab rfl<|Nl<|sq<|sq ?_
 obtain ⟨x7,hx7,h⟩:=Za h
 refine Rg<|Md rfl<|Ac (Z0i (xs:=[.tmp 10,.const (Value.int IntKind.i64 8),.const (Value.int IntKind.i64 4)]) (Zln _ _ _ _ hx7) e6 rfl rfl ⟨vt rfl,vk rfl,vk rfl,trivial⟩) rfl<|Ac (Z1g rfl rfl (vt rfl)) rfl<|Md rfl<|Gd rfl (fun hq=>Z2e lEnv_1 rfl rfl Z8e (vt rfl))<|Gd rfl (fun hq=>Z22 rfl rfl Z8y (Z8 rfl hq) (i:=6) rfl)<|Gd rfl (fun hq=>Z0a rfl rfl Z06 (Z8 rfl hq))<|Gd rfl (fun hq=>Z2a rfl rfl (Z8 rfl hq) (vk rfl))<|Ac (Z2t rfl rfl (vt rfl) (vt rfl)) rfl<|Nl<|Cq rfl h (fun h=>?_) (fun h=>?_)
 ·refine sq ?_
  obtain ⟨x8,hx8,h⟩:=Za h
  refine Rg<|Cl [] (Zdc _ hx8) e7 rfl<|As rfl<|Nl<|rt ?_
  cases h;exact Z9 Try.results3 rfl (Zg rfl)
 ·refine sk<|sq ?_
  obtain ⟨x9,hx9,h⟩:=Za h
  refine Rg<|Ld Z1h 6 rfl<|Md rfl<|Cl [20,21] (Zhg _ _ _ hx9) e8 rfl<|Cv rfl (Z05 10 rfl rfl Z4k) fun g10=>Zs Z1h 10 rfl<|Nl<|sq<|sq<|AW.freezeB 9 10 rfl rfl rfl ?_
  obtain ⟨x11,hx11,x12,hx12,h⟩:=bs2 h
  refine Rg<|Md rfl<|Cl [23] (Zh2 _ _ hx11) e10 rfl<|Ac (Z3s (cs:=[.tmp 9]) (CAs:=[rp Zn x9]) (fun x=>Z7x x x9) rfl rfl e11 ⟨vt rfl,trivial⟩ (fun x y h=>Zlf _ _ y h)) rfl<|Cl [24,25] (Zse _ _ _ hx12) e9 rfl<|Ac (Z1g rfl rfl (vt rfl)) rfl<|Nl<|Cq rfl h (fun h=>?_) (fun h=>?_)
  ·refine SR<|Ab rfl<|Nl<|rt ?_
   cases h;exact Z9 Try.results3 rfl (Zg rfl)
  ·refine sk<|sq<|sq ?_
   obtain ⟨x13,hx13,h⟩:=Za h
   refine Rg<|Md rfl<|Cl [28] (Zmu _ _ hx13) e13 rfl<|Ac (Z1g rfl rfl (vt rfl)) rfl<|Nl<|Cq rfl h (fun h=>?_) (fun h=>?_)
   ·refine sq ?_
    obtain ⟨x14,hx14,h⟩:=Za h
    refine Rg<|Cl [] (Zdc _ hx14) e7 rfl<|As rfl<|Nl<|rt ?_
    cases h;exact Z9 Try.results3 rfl (Zg rfl)
   ·refine sk<|sq ?_
    obtain ⟨x15,hx15,x16,hx16,x17,hx17,x18,hx18,h⟩:=bs4 h
    refine AR Z0n (by kernel_rfl)<|Zt rfl<|SLd Z1h 6 rfl<|Zt rfl<|SLd Z1v 8 rfl<|SCl [32,33,34,35] (Zir _ _ _ _ _ hx15) e15 rfl<|Zt rfl<|SLp Z1h rfl<|Zt rfl<|SLd Z1v 8 rfl<|SCl [37,38,39,40] (Zir _ _ _ _ _ hx16) e15 rfl<|SCl [36,41] (Zt1 _ _ _ hx17) e14 rfl<|Zt rfl<|Sd (lg [43] [] rfl fun hq S hs hr=>Z0i (xs:=[]) (Zdc _ (Z1i hx18 hq)) e7 rfl rfl trivial)<|Sd (lo [44,43] [] rfl fun S hs hr=>Z0y rfl rfl (vh hs 43 rfl rfl) (vh hs 44 rfl rfl))<|SAs rfl<|Sn<|rt ?_
    cases h;exact Z9 Try.results3 rfl (Zg rfl)
end Go.Proofs.Ytknpgojdkobgjaa.W
