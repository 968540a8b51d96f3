/- Functions of the program, told by plain functions: part 2 of 2. -/
import Derived.Test.YtnmmhkanpfmaaaaGreatDoorFFnSkipsa
namespace Go.Proofs.YtnmmhkanpfmaaaaGreatDoor.G
open Go Go.Ev
set_option linter.unusedVariables false
set_option maxRecDepth 100000
set_option linter.unusedSectionVars false
variable [PC]
abbrev Hr:=SDisk→(List Int)→Option (SDisk×Bool)
inductive Ef where
 | c0 (left_1:(List Int)) (v_18:Int) (v_19:Int) (v_4r0:(List SFile)) (out_6r0:(List SFile))
noncomputable def O1:Ef→LI
 | .c0 left_1 v_18 v_19 v_4r0 out_6r0=>(tdo Tryz.f189 488,[(1,[.one (.rsl 3 left_1)]),(4,[.one (.ptr 256 0)]),(6,[.one (.ptr 384 0)]),(18,[.one (.int .i64 v_18)]),(19,[.one (.int .i64 v_19)])],[(256,.var [.own 1016384]),(384,.var [.own 1024576]),(1016384,.sl 223 v_4r0),(1024576,.sl 223 out_6r0)])
noncomputable def E_impl_LoseDisk (z0:La) (z1:Aa) (k:Ef→Option (SDisk×Bool)) (d_0:SDisk) (left_1:(List Int)):Option (SDisk×Bool):=
 (z0 d_0).bind fun r0=>
 bif (!r0) then
 some (⟨[]⟩,false)
 else
 (z1 d_0).bind fun r1=>
 k (.c0 left_1 (r1.fFiles.length:Int) 0 [] r1.fFiles)
noncomputable def B_impl_LoseDisk (z0:La) (z1:Aa) (k:Ef→Option (SDisk×Bool)):Ef→Option (SDisk×Bool)
 | .c0 left_1 v_18 v_19 v_4r0 out_6r0=>
 bif (decide (v_19<v_18)) then
  bif ((decide (0≤v_19)) && (decide (v_19<(out_6r0.length:Int)))) then
  bif (decide (v_19<(left_1.length:Int))) then
  bif ((decide (0≤v_19)) && (decide (v_19<(left_1.length:Int)))) then
  bif ((decide (0≤(ite ((out_6r0.getD v_19.toNat (⟨⟨#[]⟩,⟨#[]⟩,0⟩:SFile)).fKept > (ite ((ite (((out_6r0.getD v_19.toNat (⟨⟨#[]⟩,⟨#[]⟩,0⟩:SFile)).fText.size:Int)<(left_1.getD v_19.toNat 0)) ((out_6r0.getD v_19.toNat (⟨⟨#[]⟩,⟨#[]⟩,0⟩:SFile)).fText.size:Int) (left_1.getD v_19.toNat 0)) > 0) (ite (((out_6r0.getD v_19.toNat (⟨⟨#[]⟩,⟨#[]⟩,0⟩:SFile)).fText.size:Int)<(left_1.getD v_19.toNat 0)) ((out_6r0.getD v_19.toNat (⟨⟨#[]⟩,⟨#[]⟩,0⟩:SFile)).fText.size:Int) (left_1.getD v_19.toNat 0)) 0)) (out_6r0.getD v_19.toNat (⟨⟨#[]⟩,⟨#[]⟩,0⟩:SFile)).fKept (ite ((ite (((out_6r0.getD v_19.toNat (⟨⟨#[]⟩,⟨#[]⟩,0⟩:SFile)).fText.size:Int)<(left_1.getD v_19.toNat 0)) ((out_6r0.getD v_19.toNat (⟨⟨#[]⟩,⟨#[]⟩,0⟩:SFile)).fText.size:Int) (left_1.getD v_19.toNat 0)) > 0) (ite (((out_6r0.getD v_19.toNat (⟨⟨#[]⟩,⟨#[]⟩,0⟩:SFile)).fText.size:Int)<(left_1.getD v_19.toNat 0)) ((out_6r0.getD v_19.toNat (⟨⟨#[]⟩,⟨#[]⟩,0⟩:SFile)).fText.size:Int) (left_1.getD v_19.toNat 0)) 0)))) && (decide ((ite ((out_6r0.getD v_19.toNat (⟨⟨#[]⟩,⟨#[]⟩,0⟩:SFile)).fKept > (ite ((ite (((out_6r0.getD v_19.toNat (⟨⟨#[]⟩,⟨#[]⟩,0⟩:SFile)).fText.size:Int)<(left_1.getD v_19.toNat 0)) ((out_6r0.getD v_19.toNat (⟨⟨#[]⟩,⟨#[]⟩,0⟩:SFile)).fText.size:Int) (left_1.getD v_19.toNat 0)) > 0) (ite (((out_6r0.getD v_19.toNat (⟨⟨#[]⟩,⟨#[]⟩,0⟩:SFile)).fText.size:Int)<(left_1.getD v_19.toNat 0)) ((out_6r0.getD v_19.toNat (⟨⟨#[]⟩,⟨#[]⟩,0⟩:SFile)).fText.size:Int) (left_1.getD v_19.toNat 0)) 0)) (out_6r0.getD v_19.toNat (⟨⟨#[]⟩,⟨#[]⟩,0⟩:SFile)).fKept (ite ((ite (((out_6r0.getD v_19.toNat (⟨⟨#[]⟩,⟨#[]⟩,0⟩:SFile)).fText.size:Int)<(left_1.getD v_19.toNat 0)) ((out_6r0.getD v_19.toNat (⟨⟨#[]⟩,⟨#[]⟩,0⟩:SFile)).fText.size:Int) (left_1.getD v_19.toNat 0)) > 0) (ite (((out_6r0.getD v_19.toNat (⟨⟨#[]⟩,⟨#[]⟩,0⟩:SFile)).fText.size:Int)<(left_1.getD v_19.toNat 0)) ((out_6r0.getD v_19.toNat (⟨⟨#[]⟩,⟨#[]⟩,0⟩:SFile)).fText.size:Int) (left_1.getD v_19.toNat 0)) 0))≤((out_6r0.getD v_19.toNat (⟨⟨#[]⟩,⟨#[]⟩,0⟩:SFile)).fText.size:Int)))) then
  k (.c0 left_1 v_18 (w64 (v_19+1)) v_4r0 ((out_6r0.set v_19.toNat (⟨(out_6r0.getD v_19.toNat (⟨⟨#[]⟩,⟨#[]⟩,0⟩:SFile)).fName,((out_6r0.getD v_19.toNat (⟨⟨#[]⟩,⟨#[]⟩,0⟩:SFile)).fText.extract 0 (ite ((out_6r0.getD v_19.toNat (⟨⟨#[]⟩,⟨#[]⟩,0⟩:SFile)).fKept > (ite ((ite (((out_6r0.getD v_19.toNat (⟨⟨#[]⟩,⟨#[]⟩,0⟩:SFile)).fText.size:Int)<(left_1.getD v_19.toNat 0)) ((out_6r0.getD v_19.toNat (⟨⟨#[]⟩,⟨#[]⟩,0⟩:SFile)).fText.size:Int) (left_1.getD v_19.toNat 0)) > 0) (ite (((out_6r0.getD v_19.toNat (⟨⟨#[]⟩,⟨#[]⟩,0⟩:SFile)).fText.size:Int)<(left_1.getD v_19.toNat 0)) ((out_6r0.getD v_19.toNat (⟨⟨#[]⟩,⟨#[]⟩,0⟩:SFile)).fText.size:Int) (left_1.getD v_19.toNat 0)) 0)) (out_6r0.getD v_19.toNat (⟨⟨#[]⟩,⟨#[]⟩,0⟩:SFile)).fKept (ite ((ite (((out_6r0.getD v_19.toNat (⟨⟨#[]⟩,⟨#[]⟩,0⟩:SFile)).fText.size:Int)<(left_1.getD v_19.toNat 0)) ((out_6r0.getD v_19.toNat (⟨⟨#[]⟩,⟨#[]⟩,0⟩:SFile)).fText.size:Int) (left_1.getD v_19.toNat 0)) > 0) (ite (((out_6r0.getD v_19.toNat (⟨⟨#[]⟩,⟨#[]⟩,0⟩:SFile)).fText.size:Int)<(left_1.getD v_19.toNat 0)) ((out_6r0.getD v_19.toNat (⟨⟨#[]⟩,⟨#[]⟩,0⟩:SFile)).fText.size:Int) (left_1.getD v_19.toNat 0)) 0)).toNat),(out_6r0.getD v_19.toNat (⟨⟨#[]⟩,⟨#[]⟩,0⟩:SFile)).fKept⟩:SFile)).set v_19.toNat (⟨((out_6r0.set v_19.toNat (⟨(out_6r0.getD v_19.toNat (⟨⟨#[]⟩,⟨#[]⟩,0⟩:SFile)).fName,((out_6r0.getD v_19.toNat (⟨⟨#[]⟩,⟨#[]⟩,0⟩:SFile)).fText.extract 0 (ite ((out_6r0.getD v_19.toNat (⟨⟨#[]⟩,⟨#[]⟩,0⟩:SFile)).fKept > (ite ((ite (((out_6r0.getD v_19.toNat (⟨⟨#[]⟩,⟨#[]⟩,0⟩:SFile)).fText.size:Int)<(left_1.getD v_19.toNat 0)) ((out_6r0.getD v_19.toNat (⟨⟨#[]⟩,⟨#[]⟩,0⟩:SFile)).fText.size:Int) (left_1.getD v_19.toNat 0)) > 0) (ite (((out_6r0.getD v_19.toNat (⟨⟨#[]⟩,⟨#[]⟩,0⟩:SFile)).fText.size:Int)<(left_1.getD v_19.toNat 0)) ((out_6r0.getD v_19.toNat (⟨⟨#[]⟩,⟨#[]⟩,0⟩:SFile)).fText.size:Int) (left_1.getD v_19.toNat 0)) 0)) (out_6r0.getD v_19.toNat (⟨⟨#[]⟩,⟨#[]⟩,0⟩:SFile)).fKept (ite ((ite (((out_6r0.getD v_19.toNat (⟨⟨#[]⟩,⟨#[]⟩,0⟩:SFile)).fText.size:Int)<(left_1.getD v_19.toNat 0)) ((out_6r0.getD v_19.toNat (⟨⟨#[]⟩,⟨#[]⟩,0⟩:SFile)).fText.size:Int) (left_1.getD v_19.toNat 0)) > 0) (ite (((out_6r0.getD v_19.toNat (⟨⟨#[]⟩,⟨#[]⟩,0⟩:SFile)).fText.size:Int)<(left_1.getD v_19.toNat 0)) ((out_6r0.getD v_19.toNat (⟨⟨#[]⟩,⟨#[]⟩,0⟩:SFile)).fText.size:Int) (left_1.getD v_19.toNat 0)) 0)).toNat),(out_6r0.getD v_19.toNat (⟨⟨#[]⟩,⟨#[]⟩,0⟩:SFile)).fKept⟩:SFile)).getD v_19.toNat (⟨⟨#[]⟩,⟨#[]⟩,0⟩:SFile)).fName,((out_6r0.set v_19.toNat (⟨(out_6r0.getD v_19.toNat (⟨⟨#[]⟩,⟨#[]⟩,0⟩:SFile)).fName,((out_6r0.getD v_19.toNat (⟨⟨#[]⟩,⟨#[]⟩,0⟩:SFile)).fText.extract 0 (ite ((out_6r0.getD v_19.toNat (⟨⟨#[]⟩,⟨#[]⟩,0⟩:SFile)).fKept > (ite ((ite (((out_6r0.getD v_19.toNat (⟨⟨#[]⟩,⟨#[]⟩,0⟩:SFile)).fText.size:Int)<(left_1.getD v_19.toNat 0)) ((out_6r0.getD v_19.toNat (⟨⟨#[]⟩,⟨#[]⟩,0⟩:SFile)).fText.size:Int) (left_1.getD v_19.toNat 0)) > 0) (ite (((out_6r0.getD v_19.toNat (⟨⟨#[]⟩,⟨#[]⟩,0⟩:SFile)).fText.size:Int)<(left_1.getD v_19.toNat 0)) ((out_6r0.getD v_19.toNat (⟨⟨#[]⟩,⟨#[]⟩,0⟩:SFile)).fText.size:Int) (left_1.getD v_19.toNat 0)) 0)) (out_6r0.getD v_19.toNat (⟨⟨#[]⟩,⟨#[]⟩,0⟩:SFile)).fKept (ite ((ite (((out_6r0.getD v_19.toNat (⟨⟨#[]⟩,⟨#[]⟩,0⟩:SFile)).fText.size:Int)<(left_1.getD v_19.toNat 0)) ((out_6r0.getD v_19.toNat (⟨⟨#[]⟩,⟨#[]⟩,0⟩:SFile)).fText.size:Int) (left_1.getD v_19.toNat 0)) > 0) (ite (((out_6r0.getD v_19.toNat (⟨⟨#[]⟩,⟨#[]⟩,0⟩:SFile)).fText.size:Int)<(left_1.getD v_19.toNat 0)) ((out_6r0.getD v_19.toNat (⟨⟨#[]⟩,⟨#[]⟩,0⟩:SFile)).fText.size:Int) (left_1.getD v_19.toNat 0)) 0)).toNat),(out_6r0.getD v_19.toNat (⟨⟨#[]⟩,⟨#[]⟩,0⟩:SFile)).fKept⟩:SFile)).getD v_19.toNat (⟨⟨#[]⟩,⟨#[]⟩,0⟩:SFile)).fText,(ite ((out_6r0.getD v_19.toNat (⟨⟨#[]⟩,⟨#[]⟩,0⟩:SFile)).fKept > (ite ((ite (((out_6r0.getD v_19.toNat (⟨⟨#[]⟩,⟨#[]⟩,0⟩:SFile)).fText.size:Int)<(left_1.getD v_19.toNat 0)) ((out_6r0.getD v_19.toNat (⟨⟨#[]⟩,⟨#[]⟩,0⟩:SFile)).fText.size:Int) (left_1.getD v_19.toNat 0)) > 0) (ite (((out_6r0.getD v_19.toNat (⟨⟨#[]⟩,⟨#[]⟩,0⟩:SFile)).fText.size:Int)<(left_1.getD v_19.toNat 0)) ((out_6r0.getD v_19.toNat (⟨⟨#[]⟩,⟨#[]⟩,0⟩:SFile)).fText.size:Int) (left_1.getD v_19.toNat 0)) 0)) (out_6r0.getD v_19.toNat (⟨⟨#[]⟩,⟨#[]⟩,0⟩:SFile)).fKept (ite ((ite (((out_6r0.getD v_19.toNat (⟨⟨#[]⟩,⟨#[]⟩,0⟩:SFile)).fText.size:Int)<(left_1.getD v_19.toNat 0)) ((out_6r0.getD v_19.toNat (⟨⟨#[]⟩,⟨#[]⟩,0⟩:SFile)).fText.size:Int) (left_1.getD v_19.toNat 0)) > 0) (ite (((out_6r0.getD v_19.toNat (⟨⟨#[]⟩,⟨#[]⟩,0⟩:SFile)).fText.size:Int)<(left_1.getD v_19.toNat 0)) ((out_6r0.getD v_19.toNat (⟨⟨#[]⟩,⟨#[]⟩,0⟩:SFile)).fText.size:Int) (left_1.getD v_19.toNat 0)) 0))⟩:SFile)))
  else none
  else none
  else
  bif ((decide (0≤(ite ((out_6r0.getD v_19.toNat (⟨⟨#[]⟩,⟨#[]⟩,0⟩:SFile)).fKept > 0) (out_6r0.getD v_19.toNat (⟨⟨#[]⟩,⟨#[]⟩,0⟩:SFile)).fKept 0))) && (decide ((ite ((out_6r0.getD v_19.toNat (⟨⟨#[]⟩,⟨#[]⟩,0⟩:SFile)).fKept > 0) (out_6r0.getD v_19.toNat (⟨⟨#[]⟩,⟨#[]⟩,0⟩:SFile)).fKept 0)≤((out_6r0.getD v_19.toNat (⟨⟨#[]⟩,⟨#[]⟩,0⟩:SFile)).fText.size:Int)))) then
  k (.c0 left_1 v_18 (w64 (v_19+1)) v_4r0 ((out_6r0.set v_19.toNat (⟨(out_6r0.getD v_19.toNat (⟨⟨#[]⟩,⟨#[]⟩,0⟩:SFile)).fName,((out_6r0.getD v_19.toNat (⟨⟨#[]⟩,⟨#[]⟩,0⟩:SFile)).fText.extract 0 (ite ((out_6r0.getD v_19.toNat (⟨⟨#[]⟩,⟨#[]⟩,0⟩:SFile)).fKept > 0) (out_6r0.getD v_19.toNat (⟨⟨#[]⟩,⟨#[]⟩,0⟩:SFile)).fKept 0).toNat),(out_6r0.getD v_19.toNat (⟨⟨#[]⟩,⟨#[]⟩,0⟩:SFile)).fKept⟩:SFile)).set v_19.toNat (⟨((out_6r0.set v_19.toNat (⟨(out_6r0.getD v_19.toNat (⟨⟨#[]⟩,⟨#[]⟩,0⟩:SFile)).fName,((out_6r0.getD v_19.toNat (⟨⟨#[]⟩,⟨#[]⟩,0⟩:SFile)).fText.extract 0 (ite ((out_6r0.getD v_19.toNat (⟨⟨#[]⟩,⟨#[]⟩,0⟩:SFile)).fKept > 0) (out_6r0.getD v_19.toNat (⟨⟨#[]⟩,⟨#[]⟩,0⟩:SFile)).fKept 0).toNat),(out_6r0.getD v_19.toNat (⟨⟨#[]⟩,⟨#[]⟩,0⟩:SFile)).fKept⟩:SFile)).getD v_19.toNat (⟨⟨#[]⟩,⟨#[]⟩,0⟩:SFile)).fName,((out_6r0.set v_19.toNat (⟨(out_6r0.getD v_19.toNat (⟨⟨#[]⟩,⟨#[]⟩,0⟩:SFile)).fName,((out_6r0.getD v_19.toNat (⟨⟨#[]⟩,⟨#[]⟩,0⟩:SFile)).fText.extract 0 (ite ((out_6r0.getD v_19.toNat (⟨⟨#[]⟩,⟨#[]⟩,0⟩:SFile)).fKept > 0) (out_6r0.getD v_19.toNat (⟨⟨#[]⟩,⟨#[]⟩,0⟩:SFile)).fKept 0).toNat),(out_6r0.getD v_19.toNat (⟨⟨#[]⟩,⟨#[]⟩,0⟩:SFile)).fKept⟩:SFile)).getD v_19.toNat (⟨⟨#[]⟩,⟨#[]⟩,0⟩:SFile)).fText,(ite ((out_6r0.getD v_19.toNat (⟨⟨#[]⟩,⟨#[]⟩,0⟩:SFile)).fKept > 0) (out_6r0.getD v_19.toNat (⟨⟨#[]⟩,⟨#[]⟩,0⟩:SFile)).fKept 0)⟩:SFile)))
  else none
  else none
 else
  some (⟨out_6r0⟩,true)
noncomputable def L_impl_LoseDisk:Nat→Ef→Option (SDisk×Bool)
 | 0,_=>none
 | m+1,s=>B_impl_LoseDisk impl_DiskOk impl_copyDisk (L_impl_LoseDisk m) s
noncomputable def impl_LoseDisk:Hr:=E_impl_LoseDisk impl_DiskOk impl_copyDisk (L_impl_LoseDisk gas)
theorem DAD:Tells ctx PP 189 cv128 cv86 (fun a=>impl_LoseDisk a.1 a.2):=
 have b:∀ z0 z1,CutIs ctx PP 189 Tryz.f189 [] [(173,Ad z0),(165,Jb z1)] cv86 O1 (B_impl_LoseDisk z0 z1):=fun z0 z1 _ s=>by cases s <;> kernel_rfl
 have e:∀ z0 z1,EntryIs ctx PP 189 [] [(173,Ad z0),(165,Jb z1)] cv128 cv86 O1 (fun k a=>E_impl_LoseDisk z0 z1 k a.1 a.2):=fun z0 z1 _ a=>by kernel_rfl
 fn_ok (hc Il (hc Gf hl_nil)) Tryz.func189 (fun s s' h=>by cases s;cases s';cases h;rfl) (fun _=>rfl) (fun _ _=>rfl) (b impl_DiskOk impl_copyDisk) (e impl_DiskOk impl_copyDisk) gas
noncomputable def EAD {γ:Type} (F:Hr):Hd ctx γ:=hdl cv128.dec (fun a=>F a.1 a.2) cv86.enc
abbrev Ir:=SDisk→(List SAct)→Int→(List Int)→Option (SDisk×Bool)
noncomputable def E_impl_CutActs (z0:CV) (z1:Hf) (z2:Hr) (d_0:SDisk) (list_1:(List SAct)) (whole_2:Int) (left_3:(List Int)):Option (SDisk×Bool):=
 (z0 whole_2 0 (list_1.length:Int)).bind fun r0=>
 bif (!r0) then
 some (⟨[]⟩,false)
 else
 bif ((decide (0≤whole_2)) && (decide (whole_2≤(list_1.length:Int)))) then
 (z1 d_0 ((list_1.take whole_2.toNat).drop 0)).bind fun r1=>
 bif (decide (r1.2<whole_2)) then
  some (⟨[]⟩,false)
 else
  (z2 r1.1 left_3).bind fun r2=>
  some (r2.1,r2.2)
 else none
noncomputable def impl_CutActs:Ir:=E_impl_CutActs impl_in impl_DoActs impl_LoseDisk
theorem FAD:Tells ctx PP 138 cv129 cv86 (fun a=>impl_CutActs a.1 a.2.1 a.2.2.1 a.2.2.2):=fn_ok0 (hc UY (hc Jr (hc DAD hl_nil))) Tryz.func138 ((fun z0 z1 z2 a=>by kernel_rfl:∀ z0 z1 z2,EntryIs0 ctx PP 138 [] [(36,OY z0),(123,Kr z1),(189,EAD z2)] cv129 cv86 fun a=>E_impl_CutActs z0 z1 z2 a.1 a.2.1 a.2.2.1 a.2.2.2) impl_in impl_DoActs impl_LoseDisk)
noncomputable def GAD {γ:Type} (F:Ir):Hd ctx γ:=hdl cv129.dec (fun a=>F a.1 a.2.1 a.2.2.1 a.2.2.2) cv86.enc
abbrev Lr:=SBox→Option SBox
noncomputable def E_impl_Fallen (z0:Aa) (z1:Nb) (b_0:SBox):Option SBox:=
 (z0 b_0.fDisk).bind fun r0=>
 z1.bind fun r1=>
 some ⟨b_0.fKey,false,r0,r1,[],[],0⟩
noncomputable def impl_Fallen:Lr:=E_impl_Fallen impl_copyDisk impl_BookNew
theorem IAD:Tells ctx PP 139 cv109 cv130 (fun a=>impl_Fallen a):=fn_ok0 (hc Gf (hc Jl hl_nil)) Tryz.func139 ((fun z0 z1 a=>by kernel_rfl:∀ z0 z1,EntryIs0 ctx PP 139 [] [(165,Jb z0),(85,Jf z1)] cv109 cv130 fun a=>E_impl_Fallen z0 z1 a) impl_copyDisk impl_BookNew)
noncomputable def JAD {γ:Type} (F:Lr):Hd ctx γ:=hdl cv109.dec (fun a=>F a) cv130.enc
abbrev Ll:=SLife→SRec→(List Int)→Option SLife
noncomputable def E_impl_Life_cut (z0:Nl) (z1:Ir) (z2:Lr) (z3:Ol) (z4:Ql) (z5:Bd) (l_0:SLife) (r_1:SRec) (left_2:(List Int)):Option SLife:=
 (z0 l_0.fBox.fKey l_0.fBox.fBook.fCount r_1).bind fun r0=>
 (z1 l_0.fBox.fDisk r0.1 1 left_2).bind fun r1=>
 (z2 l_0.fBox).bind fun r2=>
 bif r1.2 then
 (z3 r1.1 ⟨#[98,111,111,107]⟩).bind fun r3=>
 (z4 r2.fKey r3.1).bind fun r4=>
 bif (decide ((r4.1.length:Int) > l_0.fBox.fBook.fCount)) then
  bif (decide (((l_0.fDone.length+1)*80)≤140737488355328)) then
  (z5 ⟨⟨r2.fKey,r2.fUp,r1.1,r2.fBook,r2.fSessions,r2.fLives,r2.fOpened⟩,l_0.fCodes,l_0.fReplies,l_0.fGives,(l_0.fDone++[r_1])⟩ 10 ⟨#[]⟩).bind fun r5=>
  some r5
  else none
 else
  (z5 ⟨⟨r2.fKey,r2.fUp,r1.1,r2.fBook,r2.fSessions,r2.fLives,r2.fOpened⟩,l_0.fCodes,l_0.fReplies,l_0.fGives,l_0.fDone⟩ 10 ⟨#[]⟩).bind fun r6=>
  some r6
 else
 (z3 r2.fDisk ⟨#[98,111,111,107]⟩).bind fun r7=>
 (z4 r2.fKey r7.1).bind fun r8=>
 bif (decide ((r8.1.length:Int) > l_0.fBox.fBook.fCount)) then
  bif (decide (((l_0.fDone.length+1)*80)≤140737488355328)) then
  (z5 ⟨r2,l_0.fCodes,l_0.fReplies,l_0.fGives,(l_0.fDone++[r_1])⟩ 10 ⟨#[]⟩).bind fun r9=>
  some r9
  else none
 else
  (z5 ⟨r2,l_0.fCodes,l_0.fReplies,l_0.fGives,l_0.fDone⟩ 10 ⟨#[]⟩).bind fun r10=>
  some r10
noncomputable def impl_Life_cut:Ll:=E_impl_Life_cut impl_BookActs impl_CutActs impl_Fallen impl_FileAt impl_ReadBook impl_Life_tell
theorem KAD:Tells ctx PP 95 cv131 cv111 (fun a=>impl_Life_cut a.1 a.2.1 a.2.2):=fn_ok0 (hc U1 (hc FAD (hc IAD (hc Y1 (hc U2 (hc Nr hl_nil)))))) Tryz.func95 ((fun z0 z1 z2 z3 z4 z5 a=>by kernel_rfl:∀ z0 z1 z2 z3 z4 z5,EntryIs0 ctx PP 95 [0] [(122,Y2 z0),(138,GAD z1),(139,JAD z2),(140,J3 z3),(141,O3 z4),(93,Rl z5)] cv131 cv111 fun a=>E_impl_Life_cut z0 z1 z2 z3 z4 z5 a.1 a.2.1 a.2.2) impl_BookActs impl_CutActs impl_Fallen impl_FileAt impl_ReadBook impl_Life_tell)
noncomputable def U3 {γ:Type} (F:Ll):Hd ctx γ:=hdl cv131.dec (fun a=>F a.1 a.2.1 a.2.2) cv111.enc
abbrev Sl:=SBox→Option SBox
noncomputable def E_impl_copyBox (z0:Aa) (z1:Ed) (b_0:SBox):Option SBox:=
 (z0 b_0.fDisk).bind fun r0=>
 (z1 b_0.fBook).bind fun r1=>
 bif (decide ((b_0.fSessions.length*16)≤140737488355328)) then
 bif (decide ((b_0.fLives.length*16)≤140737488355328)) then
 some ⟨b_0.fKey,b_0.fUp,r0,r1,b_0.fSessions,b_0.fLives,b_0.fOpened⟩
 else none
 else none
noncomputable def impl_copyBox:Sl:=E_impl_copyBox impl_copyDisk impl_copyBook
theorem LAD:Tells ctx PP 143 cv109 cv130 (fun a=>impl_copyBox a):=fn_ok0 (hc Gf (hc Qr hl_nil)) Tryz.func143 ((fun z0 z1 a=>by kernel_rfl:∀ z0 z1,EntryIs0 ctx PP 143 [] [(165,Jb z0),(168,Ul z1)] cv109 cv130 fun a=>E_impl_copyBox z0 z1 a) impl_copyDisk impl_copyBook)
noncomputable def V3 {γ:Type} (F:Sl):Hd ctx γ:=hdl cv109.dec (fun a=>F a) cv130.enc
abbrev Vl:=SBox→Int→Int→Option SBox
inductive Rf where
 | c0 (id_1:Int) (next_2:Int) (k_7:Int) (b_0c0:ByteArray) (b_0c1:Bool) (b_0c3:ByteArray) (b_0c4:Int) (b_0c6:Int) (b_0c7:ByteArray) (b_0c8:Int) (b_0c11:Int) (b_0r2:(List SFile)) (b_0r5:(List SThing)) (b_0r9:(List SSession)) (b_0r10:(List SLive))
noncomputable def X3:Rf→LI
 | .c0 id_1 next_2 k_7 b_0c0 b_0c1 b_0c3 b_0c4 b_0c6 b_0c7 b_0c8 b_0c11 b_0r2 b_0r5 b_0r9 b_0r10=>(tdo Tryz.f144 224,[(0,[.one (.ptr 0 0)]),(1,[.one (.int .i64 id_1)]),(2,[.one (.int .i64 next_2)]),(7,[.one (.int .i64 k_7)])],[(0,.var [.str b_0c0,.bool b_0c1,.own 1000002,.str b_0c3,.int .i64 b_0c4,.own 1000005,.int .i64 b_0c6,.str b_0c7,.int .i64 b_0c8,.own 1000009,.own 1000010,.int .i64 b_0c11]),(1000002,.sl 223 b_0r2),(1000005,.sl 26 b_0r5),(1000009,.sl 176 b_0r9),(1000010,.sl 186 b_0r10)])
noncomputable def Sr (z0:Ob) (k:Rf→Option SBox) (b_0:SBox) (id_1:Int) (next_2:Int):Option SBox:=
 (z0 b_0 id_1).bind fun r0=>
 bif (decide (r0≥0)) then
 bif ((decide (0≤r0)) && (decide (r0<(b_0.fLives.length:Int)))) then
 some ⟨b_0.fKey,b_0.fUp,b_0.fDisk,b_0.fBook,b_0.fSessions,(b_0.fLives.set r0.toNat (⟨(b_0.fLives.getD r0.toNat (⟨0,0⟩:SLive)).fId,next_2⟩:SLive)),b_0.fOpened⟩
 else none
 else
 k (.c0 id_1 next_2 0 b_0.fKey b_0.fUp b_0.fBook.fWord b_0.fBook.fTries b_0.fBook.fLast b_0.fBook.fChain b_0.fBook.fCount b_0.fOpened b_0.fDisk.fFiles b_0.fBook.fThings b_0.fSessions b_0.fLives)
noncomputable def Wl (z0:Ob) (k:Rf→Option SBox):Rf→Option SBox
 | .c0 id_1 next_2 k_7 b_0c0 b_0c1 b_0c3 b_0c4 b_0c6 b_0c7 b_0c8 b_0c11 b_0r2 b_0r5 b_0r9 b_0r10=>
 bif (decide (k_7<(b_0r10.length:Int))) then
  bif ((decide (0≤k_7)) && (decide (k_7<(b_0r10.length:Int)))) then
  bif (decide ((b_0r10.getD k_7.toNat (⟨0,0⟩:SLive)).fId<id_1)) then
  k (.c0 id_1 next_2 (w64 (k_7+1)) b_0c0 b_0c1 b_0c3 b_0c4 b_0c6 b_0c7 b_0c8 b_0c11 b_0r2 b_0r5 b_0r9 b_0r10)
  else
  bif ((decide (0≤k_7)) && (decide (k_7≤(b_0r10.length:Int)))) then
  bif (decide ((((b_0r10.drop 0).take (k_7.toNat - 0)).length*16)≤140737488355328)) then
  bif (decide (((((b_0r10.drop 0).take (k_7.toNat - 0)).length+1)*16)≤140737488355328)) then
  bif ((decide (0≤k_7)) && (decide (k_7≤(b_0r10.length:Int)))) then
  bif (decide ((((((b_0r10.drop 0).take (k_7.toNat - 0))++[(⟨id_1,next_2⟩:SLive)]).length+((b_0r10.drop k_7.toNat).take (b_0r10.length - k_7.toNat)).length)*16)≤140737488355328)) then
  some ⟨b_0c0,b_0c1,⟨b_0r2⟩,⟨b_0c3,b_0c4,b_0r5,b_0c6,b_0c7,b_0c8⟩,b_0r9,((((b_0r10.drop 0).take (k_7.toNat - 0))++[(⟨id_1,next_2⟩:SLive)])++((b_0r10.drop k_7.toNat).take (b_0r10.length - k_7.toNat))),b_0c11⟩
  else none
  else none
  else none
  else none
  else none
  else none
 else
  bif ((decide (0≤k_7)) && (decide (k_7≤(b_0r10.length:Int)))) then
  bif (decide ((((b_0r10.drop 0).take (k_7.toNat - 0)).length*16)≤140737488355328)) then
  bif (decide (((((b_0r10.drop 0).take (k_7.toNat - 0)).length+1)*16)≤140737488355328)) then
  bif ((decide (0≤k_7)) && (decide (k_7≤(b_0r10.length:Int)))) then
  bif (decide ((((((b_0r10.drop 0).take (k_7.toNat - 0))++[(⟨id_1,next_2⟩:SLive)]).length+((b_0r10.drop k_7.toNat).take (b_0r10.length - k_7.toNat)).length)*16)≤140737488355328)) then
  some ⟨b_0c0,b_0c1,⟨b_0r2⟩,⟨b_0c3,b_0c4,b_0r5,b_0c6,b_0c7,b_0c8⟩,b_0r9,((((b_0r10.drop 0).take (k_7.toNat - 0))++[(⟨id_1,next_2⟩:SLive)])++((b_0r10.drop k_7.toNat).take (b_0r10.length - k_7.toNat))),b_0c11⟩
  else none
  else none
  else none
  else none
  else none
noncomputable def Tf:Nat→Rf→Option SBox
 | 0,_=>none
 | m+1,s=>Wl impl_liveAt (Tf m) s
noncomputable def Na:Vl:=Sr impl_liveAt (Tf gas)
theorem MAD:Tells ctx PP 144 cv132 cv130 (fun a=>Na a.1 a.2.1 a.2.2):=
 have b:∀ z0,CutIs ctx PP 144 Tryz.f144 [0] [(142,Uf z0)] cv130 X3 (Wl z0):=fun z0 _ s=>by cases s <;> kernel_rfl
 have e:∀ z0,EntryIs ctx PP 144 [0] [(142,Uf z0)] cv132 cv130 X3 (fun k a=>Sr z0 k a.1 a.2.1 a.2.2):=fun z0 _ a=>by kernel_rfl
 fn_ok (hc Ur hl_nil) Tryz.func144 (fun s s' h=>by cases s;cases s';cases h;rfl) (fun _=>rfl) (fun _ _=>rfl) (b impl_liveAt) (e impl_liveAt) gas
noncomputable def Y3 {γ:Type} (F:Vl):Hd ctx γ:=hdl cv132.dec (fun a=>F a.1 a.2.1 a.2.2) cv130.enc
abbrev Xl:=SBox→SCall→Int→Int→Option SBox
inductive Vf where
 | c0 (leaf_3:Int) (ok_12:Bool) (b_4:SBox) (c_5:SCall) (v_8c0:ByteArray) (v_8c1:Bool) (v_8c3:ByteArray) (v_8c4:Int) (v_8c6:Int) (v_8c7:ByteArray) (v_8c8:Int) (v_8c11:Int) (out_9c0:ByteArray) (out_9c1:Bool) (out_9c3:ByteArray) (out_9c4:Int) (out_9c6:Int) (out_9c7:ByteArray) (out_9c8:Int) (out_9c11:Int) (x_11:SThing) (v_8r2:(List SFile)) (v_8r5:(List SThing)) (v_8r9:(List SSession)) (v_8r10:(List SLive)) (out_9r2:(List SFile)) (out_9r5:(List SThing)) (out_9r9:(List SSession)) (out_9r10:(List SLive))
 | c1 (b_4:SBox) (c_5:SCall) (v_8c0:ByteArray) (v_8c1:Bool) (v_8c3:ByteArray) (v_8c4:Int) (v_8c6:Int) (v_8c7:ByteArray) (v_8c8:Int) (v_8c11:Int) (out_9c0:ByteArray) (out_9c1:Bool) (out_9c3:ByteArray) (out_9c4:Int) (out_9c6:Int) (out_9c7:ByteArray) (out_9c8:Int) (out_9c11:Int) (v_8r2:(List SFile)) (v_8r5:(List SThing)) (v_8r9:(List SSession)) (v_8r10:(List SLive)) (out_9r2:(List SFile)) (out_9r5:(List SThing)) (out_9r9:(List SSession)) (out_9r10:(List SLive))
noncomputable def I4:Vf→LI
 | .c0 leaf_3 ok_12 b_4 c_5 v_8c0 v_8c1 v_8c3 v_8c4 v_8c6 v_8c7 v_8c8 v_8c11 out_9c0 out_9c1 out_9c3 out_9c4 out_9c6 out_9c7 out_9c8 out_9c11 x_11 v_8r2 v_8r5 v_8r9 v_8r10 out_9r2 out_9r5 out_9r9 out_9r10=>(tdo Tryz.f97 32382,[(3,[.one (.int .i64 leaf_3)]),(4,[.one (.ptr 256 0)]),(5,[.one (.ptr 320 0)]),(8,[.one (.ptr 512 0)]),(9,[.one (.ptr 576 0)]),(11,[.one (.ptr 704 0)]),(12,[.one (.bool ok_12)])],[(256,.var [.str b_4.fKey,.bool b_4.fUp,.rsl 223 b_4.fDisk.fFiles,.str b_4.fBook.fWord,.int .i64 b_4.fBook.fTries,.rsl 26 b_4.fBook.fThings,.int .i64 b_4.fBook.fLast,.str b_4.fBook.fChain,.int .i64 b_4.fBook.fCount,.rsl 176 b_4.fSessions,.rsl 186 b_4.fLives,.int .i64 b_4.fOpened]),(320,.var [.int .i64 c_5.fOp,.int .i64 c_5.fSession,.int .i64 c_5.fThing,.int .i64 c_5.fKind,.str c_5.fText,.bool c_5.fHidden,.bool c_5.fFixed]),(512,.var [.str v_8c0,.bool v_8c1,.own 1032770,.str v_8c3,.int .i64 v_8c4,.own 1032773,.int .i64 v_8c6,.str v_8c7,.int .i64 v_8c8,.own 1032777,.own 1032778,.int .i64 v_8c11]),(576,.var [.str out_9c0,.bool out_9c1,.own 1036866,.str out_9c3,.int .i64 out_9c4,.own 1036869,.int .i64 out_9c6,.str out_9c7,.int .i64 out_9c8,.own 1036873,.own 1036874,.int .i64 out_9c11]),(704,.var [.int .i64 x_11.fId,.int .i64 x_11.fKind,.bool x_11.fHidden,.bool x_11.fFixed,.bool x_11.fSigns,.bool x_11.fWraps,.str x_11.fValue,.int .i64 x_11.fNext]),(1032770,.sl 223 v_8r2),(1032773,.sl 26 v_8r5),(1032777,.sl 176 v_8r9),(1032778,.sl 186 v_8r10),(1036866,.sl 223 out_9r2),(1036869,.sl 26 out_9r5),(1036873,.sl 176 out_9r9),(1036874,.sl 186 out_9r10)])
 | .c1 b_4 c_5 v_8c0 v_8c1 v_8c3 v_8c4 v_8c6 v_8c7 v_8c8 v_8c11 out_9c0 out_9c1 out_9c3 out_9c4 out_9c6 out_9c7 out_9c8 out_9c11 v_8r2 v_8r5 v_8r9 v_8r10 out_9r2 out_9r5 out_9r9 out_9r10=>(tdo Tryz.f97 129534,[(4,[.one (.ptr 256 0)]),(5,[.one (.ptr 320 0)]),(8,[.one (.ptr 512 0)]),(9,[.one (.ptr 576 0)])],[(256,.var [.str b_4.fKey,.bool b_4.fUp,.rsl 223 b_4.fDisk.fFiles,.str b_4.fBook.fWord,.int .i64 b_4.fBook.fTries,.rsl 26 b_4.fBook.fThings,.int .i64 b_4.fBook.fLast,.str b_4.fBook.fChain,.int .i64 b_4.fBook.fCount,.rsl 176 b_4.fSessions,.rsl 186 b_4.fLives,.int .i64 b_4.fOpened]),(320,.var [.int .i64 c_5.fOp,.int .i64 c_5.fSession,.int .i64 c_5.fThing,.int .i64 c_5.fKind,.str c_5.fText,.bool c_5.fHidden,.bool c_5.fFixed]),(512,.var [.str v_8c0,.bool v_8c1,.own 1032770,.str v_8c3,.int .i64 v_8c4,.own 1032773,.int .i64 v_8c6,.str v_8c7,.int .i64 v_8c8,.own 1032777,.own 1032778,.int .i64 v_8c11]),(576,.var [.str out_9c0,.bool out_9c1,.own 1036866,.str out_9c3,.int .i64 out_9c4,.own 1036869,.int .i64 out_9c6,.str out_9c7,.int .i64 out_9c8,.own 1036873,.own 1036874,.int .i64 out_9c11]),(1032770,.sl 223 v_8r2),(1032773,.sl 26 v_8r5),(1032777,.sl 176 v_8r9),(1032778,.sl 186 v_8r10),(1036866,.sl 223 out_9r2),(1036869,.sl 26 out_9r5),(1036873,.sl 176 out_9r9),(1036874,.sl 186 out_9r10)])
noncomputable def E_impl_Carry (z0:Sl) (z1:Xf) (z2:Oa) (z3:Vl) (z4:Ob) (k:Vf→Option SBox) (b_0:SBox) (c_1:SCall) (code_2:Int) (leaf_3:Int):Option SBox:=
 (z0 b_0).bind fun r0=>
 bif (code_2 != 0) then
 some r0
 else
 (z1 b_0 c_1.fSession).bind fun r1=>
 (z2 b_0.fBook c_1.fThing).bind fun r2=>
 bif (c_1.fOp == 1) then
  bif (decide (((r0.fSessions.length+1)*16)≤140737488355328)) then
  some ⟨r0.fKey,r0.fUp,r0.fDisk,r0.fBook,(r0.fSessions++[(⟨(w64 (r0.fOpened+1)),false⟩:SSession)]),r0.fLives,(w64 (r0.fOpened+1))⟩
  else none
 else
  bif (c_1.fOp == 13) then
  bif (decide (r1≥0)) then
   bif ((decide (0≤r1)) && (decide (r1≤(r0.fSessions.length:Int)))) then
   bif ((decide (0≤(w64 (r1+1)))) && (decide ((w64 (r1+1))≤(r0.fSessions.length:Int)))) then
   bif ((decide (0<r0.fSessions.length)) && (decide (((r1.toNat - 0)+((r0.fSessions.drop (w64 (r1+1)).toNat).take (r0.fSessions.length - (w64 (r1+1)).toNat)).length)≤r0.fSessions.length))) then
   some ⟨r0.fKey,r0.fUp,r0.fDisk,r0.fBook,((r0.fSessions.take (r1.toNat - 0))++((r0.fSessions.drop (w64 (r1+1)).toNat).take (r0.fSessions.length - (w64 (r1+1)).toNat))),r0.fLives,r0.fOpened⟩
   else none
   else none
   else none
  else
   bif (c_1.fOp == 2) then
   bif (decide (r1≥0)) then
    bif ((decide (0≤r1)) && (decide (r1<(r0.fSessions.length:Int)))) then
    some ⟨r0.fKey,r0.fUp,r0.fDisk,r0.fBook,(r0.fSessions.set r1.toNat (⟨(r0.fSessions.getD r1.toNat (⟨0,false⟩:SSession)).fId,true⟩:SSession)),r0.fLives,r0.fOpened⟩
    else none
   else
    k (.c0 leaf_3 r2.2 b_0 c_1 ⟨#[]⟩ false ⟨#[]⟩ 0 0 ⟨#[]⟩ 0 0 r0.fKey r0.fUp r0.fBook.fWord r0.fBook.fTries r0.fBook.fLast r0.fBook.fChain r0.fBook.fCount r0.fOpened r2.1 [] [] [] [] r0.fDisk.fFiles r0.fBook.fThings r0.fSessions r0.fLives)
   else
   k (.c0 leaf_3 r2.2 b_0 c_1 ⟨#[]⟩ false ⟨#[]⟩ 0 0 ⟨#[]⟩ 0 0 r0.fKey r0.fUp r0.fBook.fWord r0.fBook.fTries r0.fBook.fLast r0.fBook.fChain r0.fBook.fCount r0.fOpened r2.1 [] [] [] [] r0.fDisk.fFiles r0.fBook.fThings r0.fSessions r0.fLives)
  else
  bif (c_1.fOp == 2) then
   bif (decide (r1≥0)) then
   bif ((decide (0≤r1)) && (decide (r1<(r0.fSessions.length:Int)))) then
   some ⟨r0.fKey,r0.fUp,r0.fDisk,r0.fBook,(r0.fSessions.set r1.toNat (⟨(r0.fSessions.getD r1.toNat (⟨0,false⟩:SSession)).fId,true⟩:SSession)),r0.fLives,r0.fOpened⟩
   else none
   else
   k (.c0 leaf_3 r2.2 b_0 c_1 ⟨#[]⟩ false ⟨#[]⟩ 0 0 ⟨#[]⟩ 0 0 r0.fKey r0.fUp r0.fBook.fWord r0.fBook.fTries r0.fBook.fLast r0.fBook.fChain r0.fBook.fCount r0.fOpened r2.1 [] [] [] [] r0.fDisk.fFiles r0.fBook.fThings r0.fSessions r0.fLives)
  else
   k (.c0 leaf_3 r2.2 b_0 c_1 ⟨#[]⟩ false ⟨#[]⟩ 0 0 ⟨#[]⟩ 0 0 r0.fKey r0.fUp r0.fBook.fWord r0.fBook.fTries r0.fBook.fLast r0.fBook.fChain r0.fBook.fCount r0.fOpened r2.1 [] [] [] [] r0.fDisk.fFiles r0.fBook.fThings r0.fSessions r0.fLives)
noncomputable def Yf (z0:Sl) (z1:Xf) (z2:Oa) (z3:Vl) (z4:Ob) (k:Vf→Option SBox):Vf→Option SBox
 | .c0 leaf_3 ok_12 b_4 c_5 v_8c0 v_8c1 v_8c3 v_8c4 v_8c6 v_8c7 v_8c8 v_8c11 out_9c0 out_9c1 out_9c3 out_9c4 out_9c6 out_9c7 out_9c8 out_9c11 x_11 v_8r2 v_8r5 v_8r9 v_8r10 out_9r2 out_9r5 out_9r9 out_9r10=>
 bif (c_5.fOp == 5) then
  bif ok_12 then
  bif (x_11.fKind == 2) then
   bif (decide (leaf_3≥0)) then
   bif (decide (leaf_3<x_11.fNext)) then
    (z3 ⟨out_9c0,out_9c1,⟨out_9r2⟩,⟨out_9c3,out_9c4,out_9r5,out_9c6,out_9c7,out_9c8⟩,out_9r9,out_9r10,out_9c11⟩ x_11.fId (w64 (leaf_3+1))).bind fun r0=>
    some r0
   else
    k (.c1 b_4 c_5 v_8c0 v_8c1 v_8c3 v_8c4 v_8c6 v_8c7 v_8c8 v_8c11 out_9c0 out_9c1 out_9c3 out_9c4 out_9c6 out_9c7 out_9c8 out_9c11 v_8r2 v_8r5 v_8r9 v_8r10 out_9r2 out_9r5 out_9r9 out_9r10)
   else
   k (.c1 b_4 c_5 v_8c0 v_8c1 v_8c3 v_8c4 v_8c6 v_8c7 v_8c8 v_8c11 out_9c0 out_9c1 out_9c3 out_9c4 out_9c6 out_9c7 out_9c8 out_9c11 v_8r2 v_8r5 v_8r9 v_8r10 out_9r2 out_9r5 out_9r9 out_9r10)
  else
   k (.c1 b_4 c_5 v_8c0 v_8c1 v_8c3 v_8c4 v_8c6 v_8c7 v_8c8 v_8c11 out_9c0 out_9c1 out_9c3 out_9c4 out_9c6 out_9c7 out_9c8 out_9c11 v_8r2 v_8r5 v_8r9 v_8r10 out_9r2 out_9r5 out_9r9 out_9r10)
  else
  k (.c1 b_4 c_5 v_8c0 v_8c1 v_8c3 v_8c4 v_8c6 v_8c7 v_8c8 v_8c11 out_9c0 out_9c1 out_9c3 out_9c4 out_9c6 out_9c7 out_9c8 out_9c11 v_8r2 v_8r5 v_8r9 v_8r10 out_9r2 out_9r5 out_9r9 out_9r10)
 else
  k (.c1 b_4 c_5 v_8c0 v_8c1 v_8c3 v_8c4 v_8c6 v_8c7 v_8c8 v_8c11 out_9c0 out_9c1 out_9c3 out_9c4 out_9c6 out_9c7 out_9c8 out_9c11 v_8r2 v_8r5 v_8r9 v_8r10 out_9r2 out_9r5 out_9r9 out_9r10)
 | .c1 b_4 c_5 v_8c0 v_8c1 v_8c3 v_8c4 v_8c6 v_8c7 v_8c8 v_8c11 out_9c0 out_9c1 out_9c3 out_9c4 out_9c6 out_9c7 out_9c8 out_9c11 v_8r2 v_8r5 v_8r9 v_8r10 out_9r2 out_9r5 out_9r9 out_9r10=>
 bif (c_5.fOp == 9) then
  (z4 b_4 c_5.fThing).bind fun r0=>
  bif (decide (r0≥0)) then
  bif ((decide (0≤r0)) && (decide (r0≤(out_9r10.length:Int)))) then
  bif ((decide (0≤(w64 (r0+1)))) && (decide ((w64 (r0+1))≤(out_9r10.length:Int)))) then
  bif ((decide (0<out_9r10.length)) && (decide (((r0.toNat - 0)+((out_9r10.drop (w64 (r0+1)).toNat).take (out_9r10.length - (w64 (r0+1)).toNat)).length)≤out_9r10.length))) then
  some ⟨out_9c0,out_9c1,⟨out_9r2⟩,⟨out_9c3,out_9c4,out_9r5,out_9c6,out_9c7,out_9c8⟩,out_9r9,((out_9r10.take (r0.toNat - 0))++((out_9r10.drop (w64 (r0+1)).toNat).take (out_9r10.length - (w64 (r0+1)).toNat))),out_9c11⟩
  else none
  else none
  else none
  else
  some ⟨out_9c0,out_9c1,⟨out_9r2⟩,⟨out_9c3,out_9c4,out_9r5,out_9c6,out_9c7,out_9c8⟩,out_9r9,out_9r10,out_9c11⟩
 else
  some ⟨out_9c0,out_9c1,⟨out_9r2⟩,⟨out_9c3,out_9c4,out_9r5,out_9c6,out_9c7,out_9c8⟩,out_9r9,out_9r10,out_9c11⟩
noncomputable def Zf:Nat→Vf→Option SBox
 | 0,_=>none
 | m+1,s=>Yf impl_copyBox impl_sessionAt impl_ThingOf Na impl_liveAt (Zf m) s
noncomputable def impl_Carry:Xl:=E_impl_Carry impl_copyBox impl_sessionAt impl_ThingOf Na impl_liveAt (Zf gas)
theorem NAD:Tells ctx PP 97 cv133 cv130 (fun a=>impl_Carry a.1 a.2.1 a.2.2.1 a.2.2.2):=
 have b:∀ z0 z1 z2 z3 z4,CutIs ctx PP 97 Tryz.f97 [] [(143,V3 z0),(132,Vr z1),(136,Jd z2),(144,Y3 z3),(142,Uf z4)] cv130 I4 (Yf z0 z1 z2 z3 z4):=fun z0 z1 z2 z3 z4 _ s=>by cases s <;> kernel_rfl
 have e:∀ z0 z1 z2 z3 z4,EntryIs ctx PP 97 [] [(143,V3 z0),(132,Vr z1),(136,Jd z2),(144,Y3 z3),(142,Uf z4)] cv133 cv130 I4 (fun k a=>E_impl_Carry z0 z1 z2 z3 z4 k a.1 a.2.1 a.2.2.1 a.2.2.2):=fun z0 z1 z2 z3 z4 _ a=>by kernel_rfl
 fn_ok (hc LAD (hc J4 (hc Yl (hc MAD (hc Ur hl_nil))))) Tryz.func97 (fun s s' h=>by cases s <;> cases s' <;> first | ((repeat cases ‹SBox›);(repeat cases ‹SCall›);(repeat cases ‹SThing›);(repeat cases ‹SDisk›);(repeat cases ‹SBook›);cases h;done) | ((repeat cases ‹SBox›);(repeat cases ‹SCall›);(repeat cases ‹SThing›);(repeat cases ‹SDisk›);(repeat cases ‹SBook›);cases h;rfl) | exact (rg_ne h (by kernel_rfl)).elim) (fun _=>rfl) (fun _ _=>rfl) (b impl_copyBox impl_sessionAt impl_ThingOf Na impl_liveAt) (e impl_copyBox impl_sessionAt impl_ThingOf Na impl_liveAt) gas
noncomputable def O4 {γ:Type} (F:Xl):Hd ctx γ:=hdl cv133.dec (fun a=>F a.1 a.2.1 a.2.2.1 a.2.2.2) cv130.enc
abbrev Zl:=SLife→SEvent→Int→Option SLife
inductive Ag where
 | c0 (when_2:Int) (code_7:Int) (reply_8:ByteArray) (leaf_9:Int) (v_46:Int) (v_47:Int) (l_0c0:ByteArray) (l_0c1:Bool) (l_0c3:ByteArray) (l_0c4:Int) (l_0c6:Int) (l_0c7:ByteArray) (l_0c8:Int) (l_0c11:Int) (e_4:SEvent) (v_45:(List SRec)) (l_0r2:(List SFile)) (l_0r5:(List SThing)) (l_0r9:(List SSession)) (l_0r10:(List SLive)) (l_0r12:(List Int)) (l_0r13:(List ByteArray)) (l_0r14:(List SGiven)) (l_0r15:(List SRec))
noncomputable def U4:Ag→LI
 | .c0 when_2 code_7 reply_8 leaf_9 v_46 v_47 l_0c0 l_0c1 l_0c3 l_0c4 l_0c6 l_0c7 l_0c8 l_0c11 e_4 v_45 l_0r2 l_0r5 l_0r9 l_0r10 l_0r12 l_0r13 l_0r14 l_0r15=>(tdo Tryz.f52 1000,[(0,[.one (.ptr 0 0)]),(2,[.one (.int .i64 when_2)]),(4,[.one (.ptr 256 0)]),(7,[.one (.int .i64 code_7)]),(8,[.one (.str reply_8)]),(9,[.one (.int .i64 leaf_9)]),(45,[.one (.own 2928)]),(46,[.one (.int .i64 v_46)]),(47,[.one (.int .i64 v_47)])],[(0,.var [.str l_0c0,.bool l_0c1,.own 1000002,.str l_0c3,.int .i64 l_0c4,.own 1000005,.int .i64 l_0c6,.str l_0c7,.int .i64 l_0c8,.own 1000009,.own 1000010,.int .i64 l_0c11,.own 1000012,.own 1000013,.own 1000014,.own 1000015]),(256,.var [.int .i64 e_4.fCall.fOp,.int .i64 e_4.fCall.fSession,.int .i64 e_4.fCall.fThing,.int .i64 e_4.fCall.fKind,.str e_4.fCall.fText,.bool e_4.fCall.fHidden,.bool e_4.fCall.fFixed,.bool e_4.fCut,.rsl 3 e_4.fLeft,.bool e_4.fRise]),(2928,.sl 99 v_45),(1000002,.sl 223 l_0r2),(1000005,.sl 26 l_0r5),(1000009,.sl 176 l_0r9),(1000010,.sl 186 l_0r10),(1000012,.sl 3 l_0r12),(1000013,.sl 9 l_0r13),(1000014,.sl 65 l_0r14),(1000015,.sl 99 l_0r15)])
noncomputable def E_impl_Life_call (z0:Am) (z1:Ll) (z2:Bg) (z3:Fg) (z4:Xl) (z5:Bd) (k:Ag→Option SLife) (l_0:SLife) (e_1:SEvent) (when_2:Int):Option SLife:=
 (z0 l_0.fBox e_1.fCall).bind fun r0=>
 bif e_1.fCut then
 bif (decide ((r0.1.length:Int) > 0)) then
  bif ((decide ((0:Int)≤(0:Int))) && (decide (0<(r0.1.length:Int)))) then
  (z1 l_0 (r0.1.getD (0:Int).toNat (⟨0,⟨#[]⟩,0,⟨0,0,false,false,false,false,⟨#[]⟩,0⟩⟩:SRec)) e_1.fLeft).bind fun r1=>
  some r1
  else none
 else
  (z2 l_0.fBox e_1.fCall.fThing).bind fun r2=>
  k (.c0 when_2 r0.2.1 r0.2.2 r2 (r0.1.length:Int) 0 l_0.fBox.fKey l_0.fBox.fUp l_0.fBox.fBook.fWord l_0.fBox.fBook.fTries l_0.fBox.fBook.fLast l_0.fBox.fBook.fChain l_0.fBox.fBook.fCount l_0.fBox.fOpened e_1 r0.1 l_0.fBox.fDisk.fFiles l_0.fBox.fBook.fThings l_0.fBox.fSessions l_0.fBox.fLives l_0.fCodes l_0.fReplies l_0.fGives l_0.fDone)
 else
 (z2 l_0.fBox e_1.fCall.fThing).bind fun r3=>
 k (.c0 when_2 r0.2.1 r0.2.2 r3 (r0.1.length:Int) 0 l_0.fBox.fKey l_0.fBox.fUp l_0.fBox.fBook.fWord l_0.fBox.fBook.fTries l_0.fBox.fBook.fLast l_0.fBox.fBook.fChain l_0.fBox.fBook.fCount l_0.fBox.fOpened e_1 r0.1 l_0.fBox.fDisk.fFiles l_0.fBox.fBook.fThings l_0.fBox.fSessions l_0.fBox.fLives l_0.fCodes l_0.fReplies l_0.fGives l_0.fDone)
noncomputable def B_impl_Life_call (z0:Am) (z1:Ll) (z2:Bg) (z3:Fg) (z4:Xl) (z5:Bd) (k:Ag→Option SLife):Ag→Option SLife
 | .c0 when_2 code_7 reply_8 leaf_9 v_46 v_47 l_0c0 l_0c1 l_0c3 l_0c4 l_0c6 l_0c7 l_0c8 l_0c11 e_4 v_45 l_0r2 l_0r5 l_0r9 l_0r10 l_0r12 l_0r13 l_0r14 l_0r15=>
 bif (decide (v_47<v_46)) then
  bif ((decide (0≤v_47)) && (decide (v_47<(v_45.length:Int)))) then
  (z3 ⟨l_0c0,l_0c1,⟨l_0r2⟩,⟨l_0c3,l_0c4,l_0r5,l_0c6,l_0c7,l_0c8⟩,l_0r9,l_0r10,l_0c11⟩ (v_45.getD v_47.toNat (⟨0,⟨#[]⟩,0,⟨0,0,false,false,false,false,⟨#[]⟩,0⟩⟩:SRec))).bind fun r0=>
  bif r0.1 then
  bif (decide (((l_0r15.length+1)*80)≤140737488355328)) then
  k (.c0 when_2 code_7 reply_8 leaf_9 v_46 (w64 (v_47+1)) r0.2.fKey r0.2.fUp r0.2.fBook.fWord r0.2.fBook.fTries r0.2.fBook.fLast r0.2.fBook.fChain r0.2.fBook.fCount r0.2.fOpened e_4 v_45 r0.2.fDisk.fFiles r0.2.fBook.fThings r0.2.fSessions r0.2.fLives l_0r12 l_0r13 l_0r14 (l_0r15++[(v_45.getD v_47.toNat (⟨0,⟨#[]⟩,0,⟨0,0,false,false,false,false,⟨#[]⟩,0⟩⟩:SRec))]))
  else none
  else
  k (.c0 when_2 code_7 reply_8 leaf_9 v_46 (w64 (v_47+1)) r0.2.fKey r0.2.fUp r0.2.fBook.fWord r0.2.fBook.fTries r0.2.fBook.fLast r0.2.fBook.fChain r0.2.fBook.fCount r0.2.fOpened e_4 v_45 r0.2.fDisk.fFiles r0.2.fBook.fThings r0.2.fSessions r0.2.fLives l_0r12 l_0r13 l_0r14 l_0r15)
  else none
 else
  (z4 ⟨l_0c0,l_0c1,⟨l_0r2⟩,⟨l_0c3,l_0c4,l_0r5,l_0c6,l_0c7,l_0c8⟩,l_0r9,l_0r10,l_0c11⟩ e_4.fCall code_7 leaf_9).bind fun r1=>
  (z5 ⟨r1,l_0r12,l_0r13,l_0r14,l_0r15⟩ code_7 reply_8).bind fun r2=>
  bif (e_4.fCall.fOp == 5) then
  bif (code_7 == 0) then
   bif (decide (((r2.fGives.length+1)*24)≤140737488355328)) then
   some ⟨r2.fBox,r2.fCodes,r2.fReplies,(r2.fGives++[(⟨e_4.fCall.fThing,leaf_9,when_2⟩:SGiven)]),r2.fDone⟩
   else none
  else
   some r2
  else
  some r2
noncomputable def L_impl_Life_call:Nat→Ag→Option SLife
 | 0,_=>none
 | m+1,s=>B_impl_Life_call impl_Plan impl_Life_cut impl_LeafOf impl_Box_enter impl_Carry impl_Life_tell (L_impl_Life_call m) s
noncomputable def impl_Life_call:Zl:=E_impl_Life_call impl_Plan impl_Life_cut impl_LeafOf impl_Box_enter impl_Carry impl_Life_tell (L_impl_Life_call gas)
theorem OAD:Tells ctx PP 52 cv134 cv111 (fun a=>impl_Life_call a.1 a.2.1 a.2.2):=
 have b:∀ z0 z1 z2 z3 z4 z5,CutIs ctx PP 52 Tryz.f52 [0] [(94,V4 z0),(95,U3 z1),(96,Xr z2),(86,Yr z3),(97,O4 z4),(93,Rl z5)] cv111 U4 (B_impl_Life_call z0 z1 z2 z3 z4 z5):=fun z0 z1 z2 z3 z4 z5 _ s=>by cases s <;> kernel_rfl
 have e:∀ z0 z1 z2 z3 z4 z5,EntryIs ctx PP 52 [0] [(94,V4 z0),(95,U3 z1),(96,Xr z2),(86,Yr z3),(97,O4 z4),(93,Rl z5)] cv134 cv111 U4 (fun k a=>E_impl_Life_call z0 z1 z2 z3 z4 z5 k a.1 a.2.1 a.2.2):=fun z0 z1 z2 z3 z4 z5 _ a=>by kernel_rfl
 fn_ok (hc PAD (hc KAD (hc X4 (hc Y4 (hc NAD (hc Nr hl_nil)))))) Tryz.func52 (fun s s' h=>by cases s;cases s';(repeat cases ‹SEvent›);(repeat cases ‹SCall›);cases h;rfl) (fun _=>rfl) (fun _ _=>rfl) (b impl_Plan impl_Life_cut impl_LeafOf impl_Box_enter impl_Carry impl_Life_tell) (e impl_Plan impl_Life_cut impl_LeafOf impl_Box_enter impl_Carry impl_Life_tell) gas
noncomputable def Z4 {γ:Type} (F:Zl):Hd ctx γ:=hdl cv134.dec (fun a=>F a.1 a.2.1 a.2.2) cv111.enc
abbrev Cm:=ByteArray→ByteArray→(List SEvent)→Option (SLife×Bool)
inductive Gg where
 | c0 (word_1:ByteArray) (events_2:(List SEvent)) (v_29:(List SEvent)) (v_30:Int) (v_31:Int) (v_6c0:ByteArray) (v_6c1:Bool) (v_6c3:ByteArray) (v_6c4:Int) (v_6c6:Int) (v_6c7:ByteArray) (v_6c8:Int) (v_6c11:Int) (b_8c0:ByteArray) (b_8c1:Bool) (b_8c3:ByteArray) (b_8c4:Int) (b_8c6:Int) (b_8c7:ByteArray) (b_8c8:Int) (b_8c11:Int) (v_6r2:(List SFile)) (v_6r5:(List SThing)) (v_6r9:(List SSession)) (v_6r10:(List SLive)) (v_6r12:(List Int)) (v_6r13:(List ByteArray)) (v_6r14:(List SGiven)) (v_6r15:(List SRec)) (b_8r2:(List SFile)) (b_8r5:(List SThing)) (b_8r9:(List SSession)) (b_8r10:(List SLive))
 | c1 (v_46:(List SEvent)) (v_47:Int) (v_48:Int) (v_6c0:ByteArray) (v_6c1:Bool) (v_6c3:ByteArray) (v_6c4:Int) (v_6c6:Int) (v_6c7:ByteArray) (v_6c8:Int) (v_6c11:Int) (l_12c0:ByteArray) (l_12c1:Bool) (l_12c3:ByteArray) (l_12c4:Int) (l_12c6:Int) (l_12c7:ByteArray) (l_12c8:Int) (l_12c11:Int) (v_6r2:(List SFile)) (v_6r5:(List SThing)) (v_6r9:(List SSession)) (v_6r10:(List SLive)) (v_6r12:(List Int)) (v_6r13:(List ByteArray)) (v_6r14:(List SGiven)) (v_6r15:(List SRec)) (l_12r2:(List SFile)) (l_12r5:(List SThing)) (l_12r9:(List SSession)) (l_12r10:(List SLive)) (l_12r12:(List Int)) (l_12r13:(List ByteArray)) (l_12r14:(List SGiven)) (l_12r15:(List SRec))
noncomputable def D5:Gg→LI
 | .c0 word_1 events_2 v_29 v_30 v_31 v_6c0 v_6c1 v_6c3 v_6c4 v_6c6 v_6c7 v_6c8 v_6c11 b_8c0 b_8c1 b_8c3 b_8c4 b_8c6 b_8c7 b_8c8 b_8c11 v_6r2 v_6r5 v_6r9 v_6r10 v_6r12 v_6r13 v_6r14 v_6r15 b_8r2 b_8r5 b_8r9 b_8r10=>(tdo Tryz.f21 488,[(1,[.one (.str word_1)]),(2,[.one (.rsl 45 events_2)]),(6,[.one (.ptr 384 0)]),(8,[.one (.ptr 512 0)]),(29,[.one (.rsl 45 v_29)]),(30,[.one (.int .i64 v_30)]),(31,[.one (.int .i64 v_31)])],[(384,.var [.str v_6c0,.bool v_6c1,.own 1024578,.str v_6c3,.int .i64 v_6c4,.own 1024581,.int .i64 v_6c6,.str v_6c7,.int .i64 v_6c8,.own 1024585,.own 1024586,.int .i64 v_6c11,.own 1024588,.own 1024589,.own 1024590,.own 1024591]),(512,.var [.str b_8c0,.bool b_8c1,.own 1032770,.str b_8c3,.int .i64 b_8c4,.own 1032773,.int .i64 b_8c6,.str b_8c7,.int .i64 b_8c8,.own 1032777,.own 1032778,.int .i64 b_8c11]),(1024578,.sl 223 v_6r2),(1024581,.sl 26 v_6r5),(1024585,.sl 176 v_6r9),(1024586,.sl 186 v_6r10),(1024588,.sl 3 v_6r12),(1024589,.sl 9 v_6r13),(1024590,.sl 65 v_6r14),(1024591,.sl 99 v_6r15),(1032770,.sl 223 b_8r2),(1032773,.sl 26 b_8r5),(1032777,.sl 176 b_8r9),(1032778,.sl 186 b_8r10)])
 | .c1 v_46 v_47 v_48 v_6c0 v_6c1 v_6c3 v_6c4 v_6c6 v_6c7 v_6c8 v_6c11 l_12c0 l_12c1 l_12c3 l_12c4 l_12c6 l_12c7 l_12c8 l_12c11 v_6r2 v_6r5 v_6r9 v_6r10 v_6r12 v_6r13 v_6r14 v_6r15 l_12r2 l_12r5 l_12r9 l_12r10 l_12r12 l_12r13 l_12r14 l_12r15=>(tdo Tryz.f21 2024,[(6,[.one (.ptr 384 0)]),(12,[.one (.ptr 768 0)]),(46,[.one (.rsl 45 v_46)]),(47,[.one (.int .i64 v_47)]),(48,[.one (.int .i64 v_48)])],[(384,.var [.str v_6c0,.bool v_6c1,.own 1024578,.str v_6c3,.int .i64 v_6c4,.own 1024581,.int .i64 v_6c6,.str v_6c7,.int .i64 v_6c8,.own 1024585,.own 1024586,.int .i64 v_6c11,.own 1024588,.own 1024589,.own 1024590,.own 1024591]),(768,.var [.str l_12c0,.bool l_12c1,.own 1049154,.str l_12c3,.int .i64 l_12c4,.own 1049157,.int .i64 l_12c6,.str l_12c7,.int .i64 l_12c8,.own 1049161,.own 1049162,.int .i64 l_12c11,.own 1049164,.own 1049165,.own 1049166,.own 1049167]),(1024578,.sl 223 v_6r2),(1024581,.sl 26 v_6r5),(1024585,.sl 176 v_6r9),(1024586,.sl 186 v_6r10),(1024588,.sl 3 v_6r12),(1024589,.sl 9 v_6r13),(1024590,.sl 65 v_6r14),(1024591,.sl 99 v_6r15),(1049154,.sl 223 l_12r2),(1049157,.sl 26 l_12r5),(1049161,.sl 176 l_12r9),(1049162,.sl 186 l_12r10),(1049164,.sl 3 l_12r12),(1049165,.sl 9 l_12r13),(1049166,.sl 65 l_12r14),(1049167,.sl 99 l_12r15)])
noncomputable def E_impl_RunLife (z0:Em) (z1:Gm) (z2:IZ) (z3:Jm) (z4:Zl) (k:Gg→Option (SLife×Bool)) (key_0:ByteArray) (word_1:ByteArray) (events_2:(List SEvent)):Option (SLife×Bool):=
 (z0 key_0 word_1).bind fun r0=>
 bif (!r0.2) then
 some (⟨⟨⟨#[]⟩,false,⟨[]⟩,⟨⟨#[]⟩,0,[],0,⟨#[]⟩,0⟩,[],[],0⟩,[],[],[],[]⟩,false)
 else
 bif (decide ((events_2.length:Int) > 40)) then
  some (⟨⟨⟨#[]⟩,false,⟨[]⟩,⟨⟨#[]⟩,0,[],0,⟨#[]⟩,0⟩,[],[],0⟩,[],[],[],[]⟩,false)
 else
  k (.c0 word_1 events_2 events_2 (events_2.length:Int) 0 ⟨#[]⟩ false ⟨#[]⟩ 0 0 ⟨#[]⟩ 0 0 r0.1.fKey r0.1.fUp r0.1.fBook.fWord r0.1.fBook.fTries r0.1.fBook.fLast r0.1.fBook.fChain r0.1.fBook.fCount r0.1.fOpened [] [] [] [] [] [] [] [] r0.1.fDisk.fFiles r0.1.fBook.fThings r0.1.fSessions r0.1.fLives)
noncomputable def B_impl_RunLife (z0:Em) (z1:Gm) (z2:IZ) (z3:Jm) (z4:Zl) (k:Gg→Option (SLife×Bool)):Gg→Option (SLife×Bool)
 | .c0 word_1 events_2 v_29 v_30 v_31 v_6c0 v_6c1 v_6c3 v_6c4 v_6c6 v_6c7 v_6c8 v_6c11 b_8c0 b_8c1 b_8c3 b_8c4 b_8c6 b_8c7 b_8c8 b_8c11 v_6r2 v_6r5 v_6r9 v_6r10 v_6r12 v_6r13 v_6r14 v_6r15 b_8r2 b_8r5 b_8r9 b_8r10=>
 bif (decide (v_31<v_30)) then
  bif ((decide (0≤v_31)) && (decide (v_31<(v_29.length:Int)))) then
  (z1 (v_29.getD v_31.toNat (⟨⟨0,0,0,0,⟨#[]⟩,false,false⟩,false,[],false⟩:SEvent))).bind fun r0=>
  bif (!r0) then
  some (⟨⟨⟨#[]⟩,false,⟨[]⟩,⟨⟨#[]⟩,0,[],0,⟨#[]⟩,0⟩,[],[],0⟩,[],[],[],[]⟩,false)
  else
  k (.c0 word_1 events_2 v_29 v_30 (w64 (v_31+1)) v_6c0 v_6c1 v_6c3 v_6c4 v_6c6 v_6c7 v_6c8 v_6c11 b_8c0 b_8c1 b_8c3 b_8c4 b_8c6 b_8c7 b_8c8 b_8c11 v_6r2 v_6r5 v_6r9 v_6r10 v_6r12 v_6r13 v_6r14 v_6r15 b_8r2 b_8r5 b_8r9 b_8r10)
  else none
 else
  (z2 word_1).bind fun r1=>
  k (.c1 events_2 (events_2.length:Int) 0 v_6c0 v_6c1 v_6c3 v_6c4 v_6c6 v_6c7 v_6c8 v_6c11 b_8c0 b_8c1 b_8c3 b_8c4 b_8c6 b_8c7 b_8c8 b_8c11 v_6r2 v_6r5 v_6r9 v_6r10 v_6r12 v_6r13 v_6r14 v_6r15 b_8r2 b_8r5 b_8r9 b_8r10 [] [] [] [⟨1,r1,0,⟨0,0,false,false,false,false,⟨#[]⟩,0⟩⟩])
 | .c1 v_46 v_47 v_48 v_6c0 v_6c1 v_6c3 v_6c4 v_6c6 v_6c7 v_6c8 v_6c11 l_12c0 l_12c1 l_12c3 l_12c4 l_12c6 l_12c7 l_12c8 l_12c11 v_6r2 v_6r5 v_6r9 v_6r10 v_6r12 v_6r13 v_6r14 v_6r15 l_12r2 l_12r5 l_12r9 l_12r10 l_12r12 l_12r13 l_12r14 l_12r15=>
 bif (decide (v_48<v_47)) then
  bif ((decide (0≤v_48)) && (decide (v_48<(v_46.length:Int)))) then
  bif (v_46.getD v_48.toNat (⟨⟨0,0,0,0,⟨#[]⟩,false,false⟩,false,[],false⟩:SEvent)).fRise then
  (z3 ⟨⟨l_12c0,l_12c1,⟨l_12r2⟩,⟨l_12c3,l_12c4,l_12r5,l_12c6,l_12c7,l_12c8⟩,l_12r9,l_12r10,l_12c11⟩,l_12r12,l_12r13,l_12r14,l_12r15⟩).bind fun r0=>
  k (.c1 v_46 v_47 (w64 (v_48+1)) v_6c0 v_6c1 v_6c3 v_6c4 v_6c6 v_6c7 v_6c8 v_6c11 r0.fBox.fKey r0.fBox.fUp r0.fBox.fBook.fWord r0.fBox.fBook.fTries r0.fBox.fBook.fLast r0.fBox.fBook.fChain r0.fBox.fBook.fCount r0.fBox.fOpened v_6r2 v_6r5 v_6r9 v_6r10 v_6r12 v_6r13 v_6r14 v_6r15 r0.fBox.fDisk.fFiles r0.fBox.fBook.fThings r0.fBox.fSessions r0.fBox.fLives r0.fCodes r0.fReplies r0.fGives r0.fDone)
  else
  (z4 ⟨⟨l_12c0,l_12c1,⟨l_12r2⟩,⟨l_12c3,l_12c4,l_12r5,l_12c6,l_12c7,l_12c8⟩,l_12r9,l_12r10,l_12c11⟩,l_12r12,l_12r13,l_12r14,l_12r15⟩ (v_46.getD v_48.toNat (⟨⟨0,0,0,0,⟨#[]⟩,false,false⟩,false,[],false⟩:SEvent)) v_48).bind fun r1=>
  k (.c1 v_46 v_47 (w64 (v_48+1)) v_6c0 v_6c1 v_6c3 v_6c4 v_6c6 v_6c7 v_6c8 v_6c11 r1.fBox.fKey r1.fBox.fUp r1.fBox.fBook.fWord r1.fBox.fBook.fTries r1.fBox.fBook.fLast r1.fBox.fBook.fChain r1.fBox.fBook.fCount r1.fBox.fOpened v_6r2 v_6r5 v_6r9 v_6r10 v_6r12 v_6r13 v_6r14 v_6r15 r1.fBox.fDisk.fFiles r1.fBox.fBook.fThings r1.fBox.fSessions r1.fBox.fLives r1.fCodes r1.fReplies r1.fGives r1.fDone)
  else none
 else
  some (⟨⟨l_12c0,l_12c1,⟨l_12r2⟩,⟨l_12c3,l_12c4,l_12r5,l_12c6,l_12c7,l_12c8⟩,l_12r9,l_12r10,l_12c11⟩,l_12r12,l_12r13,l_12r14,l_12r15⟩,true)
noncomputable def L_impl_RunLife:Nat→Gg→Option (SLife×Bool)
 | 0,_=>none
 | m+1,s=>B_impl_RunLife impl_BoxNew impl_EventOk impl_DigestOf impl_Life_rise impl_Life_call (L_impl_RunLife m) s
noncomputable def impl_RunLife:Cm:=E_impl_RunLife impl_BoxNew impl_EventOk impl_DigestOf impl_Life_rise impl_Life_call (L_impl_RunLife gas)
theorem QAD:Tells ctx PP 21 cv135 cv136 (fun a=>impl_RunLife a.1 a.2.1 a.2.2):=
 have b:∀ z0 z1 z2 z3 z4,CutIs ctx PP 21 Tryz.f21 [] [(48,E5 z0),(49,F5 z1),(50,PZ z2),(51,G5 z3),(52,Z4 z4)] cv136 D5 (B_impl_RunLife z0 z1 z2 z3 z4):=fun z0 z1 z2 z3 z4 _ s=>by cases s <;> kernel_rfl
 have e:∀ z0 z1 z2 z3 z4,EntryIs ctx PP 21 [] [(48,E5 z0),(49,F5 z1),(50,PZ z2),(51,G5 z3),(52,Z4 z4)] cv135 cv136 D5 (fun k a=>E_impl_RunLife z0 z1 z2 z3 z4 k a.1 a.2.1 a.2.2):=fun z0 z1 z2 z3 z4 _ a=>by kernel_rfl
 fn_ok (hc RAD (hc SAD (hc Ba (hc TAD (hc OAD hl_nil))))) Tryz.func21 (fun s s' h=>by cases s <;> cases s' <;> first | (cases h;done) | (cases h;rfl) | exact (rg_ne h (by kernel_rfl)).elim) (fun _=>rfl) (fun _ _=>rfl) (b impl_BoxNew impl_EventOk impl_DigestOf impl_Life_rise impl_Life_call) (e impl_BoxNew impl_EventOk impl_DigestOf impl_Life_rise impl_Life_call) gas
noncomputable def I5 {γ:Type} (F:Cm):Hd ctx γ:=hdl cv135.dec (fun a=>F a.1 a.2.1 a.2.2) cv136.enc
abbrev Lm:=(List SGiven)→Int→Option (List Int)
inductive Hg where
 | c0 (thing_1:Int) (v_8:(List SGiven)) (v_9:Int) (v_10:Int) (out_5:(List Int))
noncomputable def J5:Hg→LI
 | .c0 thing_1 v_8 v_9 v_10 out_5=>(tdo Tryz.f22 232,[(1,[.one (.int .i64 thing_1)]),(5,[.one (.own 368)]),(8,[.one (.rsl 65 v_8)]),(9,[.one (.int .i64 v_9)]),(10,[.one (.int .i64 v_10)])],[(368,.sl 3 out_5)])
noncomputable def O5 (k:Hg→Option (List Int)) (list_0:(List SGiven)) (thing_1:Int):Option (List Int):=
 k (.c0 thing_1 list_0 (list_0.length:Int) 0 [])
noncomputable def B_impl_Leafs (k:Hg→Option (List Int)):Hg→Option (List Int)
 | .c0 thing_1 v_8 v_9 v_10 out_5=>
 bif (decide (v_10<v_9)) then
  bif ((decide (0≤v_10)) && (decide (v_10<(v_8.length:Int)))) then
  bif ((v_8.getD v_10.toNat (⟨0,0,0⟩:SGiven)).fThing == thing_1) then
  bif (decide (((out_5.length+1)*8)≤140737488355328)) then
  k (.c0 thing_1 v_8 v_9 (w64 (v_10+1)) (out_5++[(v_8.getD v_10.toNat (⟨0,0,0⟩:SGiven)).fLeaf]))
  else none
  else
  k (.c0 thing_1 v_8 v_9 (w64 (v_10+1)) out_5)
  else none
 else
  some out_5
noncomputable def L_impl_Leafs:Nat→Hg→Option (List Int)
 | 0,_=>none
 | m+1,s=>B_impl_Leafs (L_impl_Leafs m) s
noncomputable def impl_Leafs:Lm:=O5 (L_impl_Leafs gas)
theorem UAD:Tells ctx PP 22 cv137 cv17 (fun a=>impl_Leafs a.1 a.2):=
 have b:CutIs ctx PP 22 Tryz.f22 [] [] cv17 J5 (B_impl_Leafs):=fun _ s=>by cases s <;> kernel_rfl
 have e:EntryIs ctx PP 22 [] [] cv137 cv17 J5 (fun k a=>O5 k a.1 a.2):=fun _ a=>by kernel_rfl
 fn_ok hl_nil Tryz.func22 (fun s s' h=>by cases s;cases s';cases h;rfl) (fun _=>rfl) (fun _ _=>rfl) b e gas
noncomputable def P5 {γ:Type} (F:Lm):Hd ctx γ:=hdl cv137.dec (fun a=>F a.1 a.2) cv17.enc
abbrev Q5:=Unit→Option Bool
inductive Ig where
 | c0 (key_4:ByteArray) (i_12:Int) (open_5c0:Int) (open_5c1:Int) (open_5c2:Int) (open_5c3:Int) (open_5c4:ByteArray) (open_5c5:Bool) (open_5c6:Bool) (open_5c7:Bool) (open_5c9:Bool) (in_6c0:Int) (in_6c1:Int) (in_6c2:Int) (in_6c3:Int) (in_6c4:ByteArray) (in_6c5:Bool) (in_6c6:Bool) (in_6c7:Bool) (in_6c9:Bool) (sign_8c0:Int) (sign_8c1:Int) (sign_8c2:Int) (sign_8c3:Int) (sign_8c4:ByteArray) (sign_8c5:Bool) (sign_8c6:Bool) (sign_8c7:Bool) (sign_8c9:Bool) (drop_9c0:Int) (drop_9c1:Int) (drop_9c2:Int) (drop_9c3:Int) (drop_9c4:ByteArray) (drop_9c5:Bool) (drop_9c6:Bool) (drop_9c7:Bool) (drop_9c9:Bool) (make2_10c0:Int) (make2_10c1:Int) (make2_10c2:Int) (make2_10c3:Int) (make2_10c4:ByteArray) (make2_10c5:Bool) (make2_10c6:Bool) (make2_10c7:Bool) (make2_10c9:Bool) (p_3:(List Int)) (list_11:(List SEvent))
noncomputable def U5:Ig→LI
 | .c0 key_4 i_12 open_5c0 open_5c1 open_5c2 open_5c3 open_5c4 open_5c5 open_5c6 open_5c7 open_5c9 in_6c0 in_6c1 in_6c2 in_6c3 in_6c4 in_6c5 in_6c6 in_6c7 in_6c9 sign_8c0 sign_8c1 sign_8c2 sign_8c3 sign_8c4 sign_8c5 sign_8c6 sign_8c7 sign_8c9 drop_9c0 drop_9c1 drop_9c2 drop_9c3 drop_9c4 drop_9c5 drop_9c6 drop_9c7 drop_9c9 make2_10c0 make2_10c1 make2_10c2 make2_10c3 make2_10c4 make2_10c5 make2_10c6 make2_10c7 make2_10c9 p_3 list_11=>(tdo Tryz.f5 262096,[(3,[.one (.own 240)]),(4,[.one (.str key_4)]),(5,[.one (.ptr 320 0)]),(6,[.one (.ptr 384 0)]),(8,[.one (.ptr 512 0)]),(9,[.one (.ptr 576 0)]),(10,[.one (.ptr 640 0)]),(11,[.one (.own 752)]),(12,[.one (.int .i64 i_12)])],[(320,.var [.int .i64 open_5c0,.int .i64 open_5c1,.int .i64 open_5c2,.int .i64 open_5c3,.str open_5c4,.bool open_5c5,.bool open_5c6,.bool open_5c7,.nils,.bool open_5c9]),(384,.var [.int .i64 in_6c0,.int .i64 in_6c1,.int .i64 in_6c2,.int .i64 in_6c3,.str in_6c4,.bool in_6c5,.bool in_6c6,.bool in_6c7,.nils,.bool in_6c9]),(512,.var [.int .i64 sign_8c0,.int .i64 sign_8c1,.int .i64 sign_8c2,.int .i64 sign_8c3,.str sign_8c4,.bool sign_8c5,.bool sign_8c6,.bool sign_8c7,.nils,.bool sign_8c9]),(576,.var [.int .i64 drop_9c0,.int .i64 drop_9c1,.int .i64 drop_9c2,.int .i64 drop_9c3,.str drop_9c4,.bool drop_9c5,.bool drop_9c6,.bool drop_9c7,.nils,.bool drop_9c9]),(640,.var [.int .i64 make2_10c0,.int .i64 make2_10c1,.int .i64 make2_10c2,.int .i64 make2_10c3,.str make2_10c4,.bool make2_10c5,.bool make2_10c6,.bool make2_10c7,.nils,.bool make2_10c9]),(240,.sl 3 p_3),(752,.sl 45 list_11)])
noncomputable def Zr (z0:Om) (z1:Pm) (z2:Qm) (z3:Sm) (z4:Cm) (z5:Lm) (k:Ig→Option Bool) (code_0:Unit):Option Bool:=
 (z0 ()).bind fun r0=>
 bif r0 then
 some true
 else
 (z1 ()).bind fun r1=>
 bif ((decide ((0:Int)≤(0:Int))) && (decide (0<(r1.length:Int)))) then
 (z2 (r1.getD (0:Int).toNat 0)).bind fun r2=>
 (z3 r2).bind fun r3=>
 k (.c0 r3 0 1 0 0 0 ⟨#[]⟩ false false false false 2 1 0 0 ⟨#[119]⟩ false false false false 5 1 1 0 ⟨#[109]⟩ false false false false 13 1 0 0 ⟨#[]⟩ false false true false 4 1 0 3 ⟨#[100]⟩ false false true false r1 [⟨⟨1,0,0,0,⟨#[]⟩,false,false⟩,false,[],false⟩,⟨⟨2,1,0,0,⟨#[119]⟩,false,false⟩,false,[],false⟩,⟨⟨4,1,0,2,⟨#[116]⟩,false,false⟩,false,[],false⟩,⟨⟨5,1,1,0,⟨#[109]⟩,false,false⟩,false,[],false⟩])
 else none
noncomputable def Qa (z0:Om) (z1:Pm) (z2:Qm) (z3:Sm) (z4:Cm) (z5:Lm) (k:Ig→Option Bool):Ig→Option Bool
 | .c0 key_4 i_12 open_5c0 open_5c1 open_5c2 open_5c3 open_5c4 open_5c5 open_5c6 open_5c7 open_5c9 in_6c0 in_6c1 in_6c2 in_6c3 in_6c4 in_6c5 in_6c6 in_6c7 in_6c9 sign_8c0 sign_8c1 sign_8c2 sign_8c3 sign_8c4 sign_8c5 sign_8c6 sign_8c7 sign_8c9 drop_9c0 drop_9c1 drop_9c2 drop_9c3 drop_9c4 drop_9c5 drop_9c6 drop_9c7 drop_9c9 make2_10c0 make2_10c1 make2_10c2 make2_10c3 make2_10c4 make2_10c5 make2_10c6 make2_10c7 make2_10c9 p_3 list_11=>
 bif ((decide ((0:Int)≤(1:Int))) && (decide (1<(p_3.length:Int)))) then
 bif (decide (i_12<((p_3.getD (1:Int).toNat 0).tmod 3))) then
  bif (decide (((list_11.length+1)*96)≤140737488355328)) then
  k (.c0 key_4 (w64 (i_12+1)) open_5c0 open_5c1 open_5c2 open_5c3 open_5c4 open_5c5 open_5c6 open_5c7 open_5c9 in_6c0 in_6c1 in_6c2 in_6c3 in_6c4 in_6c5 in_6c6 in_6c7 in_6c9 sign_8c0 sign_8c1 sign_8c2 sign_8c3 sign_8c4 sign_8c5 sign_8c6 sign_8c7 sign_8c9 drop_9c0 drop_9c1 drop_9c2 drop_9c3 drop_9c4 drop_9c5 drop_9c6 drop_9c7 drop_9c9 make2_10c0 make2_10c1 make2_10c2 make2_10c3 make2_10c4 make2_10c5 make2_10c6 make2_10c7 make2_10c9 p_3 (list_11++[(⟨⟨sign_8c0,sign_8c1,sign_8c2,sign_8c3,sign_8c4,sign_8c5,sign_8c6⟩,sign_8c7,[],sign_8c9⟩:SEvent)]))
  else none
 else
  bif (decide (((list_11.length+6)*96)≤140737488355328)) then
  (z4 key_4 ⟨#[119]⟩ (list_11++[(⟨⟨make2_10c0,make2_10c1,make2_10c2,make2_10c3,make2_10c4,make2_10c5,make2_10c6⟩,make2_10c7,[],make2_10c9⟩:SEvent),(⟨⟨0,0,0,0,⟨#[]⟩,false,false⟩,false,[],true⟩:SEvent),(⟨⟨open_5c0,open_5c1,open_5c2,open_5c3,open_5c4,open_5c5,open_5c6⟩,open_5c7,[],open_5c9⟩:SEvent),(⟨⟨in_6c0,in_6c1,in_6c2,in_6c3,in_6c4,in_6c5,in_6c6⟩,in_6c7,[],in_6c9⟩:SEvent),(⟨⟨sign_8c0,sign_8c1,sign_8c2,sign_8c3,sign_8c4,sign_8c5,sign_8c6⟩,sign_8c7,[],sign_8c9⟩:SEvent),(⟨⟨drop_9c0,drop_9c1,drop_9c2,drop_9c3,drop_9c4,drop_9c5,drop_9c6⟩,drop_9c7,[],drop_9c9⟩:SEvent)])).bind fun r0=>
  bif (!r0.2) then
  some false
  else
  bif ((decide ((0:Int)≤(1:Int))) && (decide (1<(p_3.length:Int)))) then
  bif ((r0.1.fGives.length:Int) != (w64 (2+((p_3.getD (1:Int).toNat 0).tmod 3)))) then
   some false
  else
   bif ((decide (0≤(w64 ((r0.1.fGives.length:Int) - 1)))) && (decide ((w64 ((r0.1.fGives.length:Int) - 1))<(r0.1.fGives.length:Int)))) then
   bif ((r0.1.fGives.getD (w64 ((r0.1.fGives.length:Int) - 1)).toNat (⟨0,0,0⟩:SGiven)).fLeaf == 3) then
   bif ((decide ((0:Int)≤(0:Int))) && (decide (0<(r0.1.fGives.length:Int)))) then
   bif ((r0.1.fGives.getD (0:Int).toNat (⟨0,0,0⟩:SGiven)).fLeaf == 0) then
    (z5 r0.1.fGives 1).bind fun r1=>
    bif ((decide (0≤(w64 ((r0.1.fGives.length:Int) - 2)))) && (decide ((w64 ((r0.1.fGives.length:Int) - 2))<(r1.length:Int)))) then
    bif ((decide ((0:Int)≤(1:Int))) && (decide (1<(p_3.length:Int)))) then
    some ((r1.getD (w64 ((r0.1.fGives.length:Int) - 2)).toNat 0) == ((p_3.getD (1:Int).toNat 0).tmod 3))
    else none
    else none
   else
    some false
   else none
   else
   some false
   else none
  else none
  else none
 else none
noncomputable def Ua:Nat→Ig→Option Bool
 | 0,_=>none
 | m+1,s=>Qa laws_big spec_DrawPlaces Qb spec_DigestOf impl_RunLife impl_Leafs (Ua m) s
noncomputable def laws_FnSkips:Q5:=Zr laws_big spec_DrawPlaces Qb spec_DigestOf impl_RunLife impl_Leafs (Ua gas)
theorem ok_laws_FnSkips:Tells ctx PP 5 cv49 cv4 (fun a=>laws_FnSkips a):=
 have b:∀ z0 z1 z2 z3 z4 z5,CutIs ctx PP 5 Tryz.f5 [] [(10,V5 z0),(18,X5 z1),(20,Y5 z2),(19,Z5 z3),(21,I5 z4),(22,P5 z5)] cv4 U5 (Qa z0 z1 z2 z3 z4 z5):=fun z0 z1 z2 z3 z4 z5 _ s=>by cases s <;> kernel_rfl
 have e:∀ z0 z1 z2 z3 z4 z5,EntryIs ctx PP 5 [] [(10,V5 z0),(18,X5 z1),(20,Y5 z2),(19,Z5 z3),(21,I5 z4),(22,P5 z5)] cv49 cv4 U5 (fun k a=>Zr z0 z1 z2 z3 z4 z5 k a):=fun z0 z1 z2 z3 z4 z5 _ a=>by kernel_rfl
 fn_ok (hc VAD (hc WAD (hc XAD (hc YAD (hc QAD (hc UAD hl_nil)))))) Tryz.func5 (fun s s' h=>by cases s;cases s';cases h;rfl) (fun _=>rfl) (fun _ _=>rfl) (b laws_big spec_DrawPlaces Qb spec_DigestOf impl_RunLife impl_Leafs) (e laws_big spec_DrawPlaces Qb spec_DigestOf impl_RunLife impl_Leafs) gas
noncomputable def NAL {γ:Type} (F:Q5):Hd ctx γ:=hdl cv49.dec (fun a=>F a) cv4.enc
end Go.Proofs.YtnmmhkanpfmaaaaGreatDoor.G
