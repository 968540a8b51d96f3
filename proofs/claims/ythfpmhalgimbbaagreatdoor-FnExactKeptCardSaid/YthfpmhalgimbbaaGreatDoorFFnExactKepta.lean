/- Functions of the program, told by plain functions: part 1 of 2. -/
import Derived.Test.YthfpmhalgimbbaaGreatDoorCtx
namespace Go.Proofs.YthfpmhalgimbbaaGreatDoor.G
open Go Go.Ev
set_option linter.unusedVariables false
abbrev U4:=SFile→Int→Option Int
noncomputable def UAD (a_0:SFile) (left_1:Int):Option Int:=
 bif (decide ((w64 (left_1 - (a_0.fName.size:Int)))<0)) then
 some (-(1:Int))
 else
 bif (decide ((w64 ((w64 (left_1 - (a_0.fName.size:Int))) - (a_0.fText.size:Int)))<0)) then
  some (-(1:Int))
 else
  some (w64 ((w64 (left_1 - (a_0.fName.size:Int))) - (a_0.fText.size:Int)))
noncomputable def Ih:U4:=UAD
theorem QAY:Tells ctx PP 162 cv82 cv15 (fun a=>Ih a.1 a.2):=fn_ok0 hl_nil Tryz.func162 (fun a=>by kernel_rfl:EntryIs0 ctx PP 162 [] [] cv82 cv15 fun a=>UAD a.1 a.2)
noncomputable def FAO {γ:Type} (F:U4):Hd ctx γ:=hdl cv82.dec (fun a=>F a.1 a.2) cv15.enc
abbrev VAD:=(List SFile)→Int→Option Int
inductive Yp where
 | c0 (a_0:(List SFile)) (left_1:Int) (i_5:Int)
noncomputable def GAO:Yp→LI
 | .c0 a_0 left_1 i_5=>(tdo Tryz.f114 976,[(0,[.one (.rsl 197 a_0)]),(1,[.one (.int .i64 left_1)]),(5,[.one (.int .i64 i_5)])],[])
noncomputable def WAD (z0:U4) (k:Yp→Option Int) (a_0:(List SFile)) (left_1:Int):Option Int:=
 bif (decide ((w64 (left_1 - (a_0.length:Int)))<0)) then
 some (-(1:Int))
 else
 k (.c0 a_0 (w64 (left_1 - (a_0.length:Int))) 0)
noncomputable def XAD (z0:U4) (k:Yp→Option Int):Yp→Option Int
 | .c0 a_0 left_1 i_5=>
 bif (decide (i_5<(a_0.length:Int))) then
  bif ((decide (0≤i_5)) && (decide (i_5<(a_0.length:Int)))) then
  (z0 (a_0.getD i_5.toNat (⟨⟨#[]⟩,⟨#[]⟩,0⟩:SFile)) left_1).bind fun r0=>
  bif (decide (r0<0)) then
  some (-(1:Int))
  else
  k (.c0 a_0 r0 (w64 (i_5+1)))
  else none
 else
  some left_1
noncomputable def V4:Nat→Yp→Option Int
 | 0,_=>none
 | m+1,s=>XAD Ih (V4 m) s
noncomputable def Zp:VAD:=WAD Ih (V4 gas)
theorem RAY:Tells ctx PP 114 cv83 cv15 (fun a=>Zp a.1 a.2):=
 have b:∀ z0,CutIs ctx PP 114 Tryz.f114 [] [(162,FAO z0)] cv15 GAO (XAD z0):=fun z0 _ s=>by cases s <;> kernel_rfl
 have e:∀ z0,EntryIs ctx PP 114 [] [(162,FAO z0)] cv83 cv15 GAO (fun k a=>WAD z0 k a.1 a.2):=fun z0 _ a=>by kernel_rfl
 fn_ok (hc QAY hl_nil) Tryz.func114 (fun s s' h=>by cases s;cases s';cases h;rfl) (fun _=>rfl) (fun _ _=>rfl) (b Ih) (e Ih) gas
noncomputable def TAY {γ:Type} (F:VAD):Hd ctx γ:=hdl cv83.dec (fun a=>F a.1 a.2) cv15.enc
abbrev YAD:=SDisk→Int→Option Int
noncomputable def ZAD (z0:VAD) (a_0:SDisk) (left_1:Int):Option Int:=
 (z0 a_0.fFiles left_1).bind fun r0=>
 bif (decide (r0<0)) then
 some (-(1:Int))
 else
 some r0
noncomputable def Aq:YAD:=ZAD Zp
theorem UAY:Tells ctx PP 45 cv84 cv15 (fun a=>Aq a.1 a.2):=fn_ok0 (hc RAY hl_nil) Tryz.func45 ((fun z0 a=>by kernel_rfl:∀ z0,EntryIs0 ctx PP 45 [] [(114,TAY z0)] cv84 cv15 fun a=>ZAD z0 a.1 a.2) Zp)
noncomputable def VAY {γ:Type} (F:YAD):Hd ctx γ:=hdl cv84.dec (fun a=>F a.1 a.2) cv15.enc
abbrev Bq:=SThing→Int→Option Int
noncomputable def HAO (a_0:SThing) (left_1:Int):Option Int:=
 bif (decide ((w64 (left_1 - (a_0.fValue.size:Int)))<0)) then
 some (-(1:Int))
 else
 some (w64 (left_1 - (a_0.fValue.size:Int)))
noncomputable def Yf:Bq:=HAO
theorem IAO:Tells ctx PP 163 cv85 cv15 (fun a=>Yf a.1 a.2):=fn_ok0 hl_nil Tryz.func163 (fun a=>by kernel_rfl:EntryIs0 ctx PP 163 [] [] cv85 cv15 fun a=>HAO a.1 a.2)
noncomputable def AAE {γ:Type} (F:Bq):Hd ctx γ:=hdl cv85.dec (fun a=>F a.1 a.2) cv15.enc
abbrev BAE:=(List SThing)→Int→Option Int
inductive Dq where
 | c0 (a_0:(List SThing)) (left_1:Int) (i_5:Int)
noncomputable def JAO:Dq→LI
 | .c0 a_0 left_1 i_5=>(tdo Tryz.f115 976,[(0,[.one (.rsl 171 a_0)]),(1,[.one (.int .i64 left_1)]),(5,[.one (.int .i64 i_5)])],[])
noncomputable def CAE (z0:Bq) (k:Dq→Option Int) (a_0:(List SThing)) (left_1:Int):Option Int:=
 bif (decide ((w64 (left_1 - (a_0.length:Int)))<0)) then
 some (-(1:Int))
 else
 k (.c0 a_0 (w64 (left_1 - (a_0.length:Int))) 0)
noncomputable def DAE (z0:Bq) (k:Dq→Option Int):Dq→Option Int
 | .c0 a_0 left_1 i_5=>
 bif (decide (i_5<(a_0.length:Int))) then
  bif ((decide (0≤i_5)) && (decide (i_5<(a_0.length:Int)))) then
  (z0 (a_0.getD i_5.toNat (⟨0,0,false,false,false,false,⟨#[]⟩,0⟩:SThing)) left_1).bind fun r0=>
  bif (decide (r0<0)) then
  some (-(1:Int))
  else
  k (.c0 a_0 r0 (w64 (i_5+1)))
  else none
 else
  some left_1
noncomputable def X4:Nat→Dq→Option Int
 | 0,_=>none
 | m+1,s=>DAE Yf (X4 m) s
noncomputable def Fq:BAE:=CAE Yf (X4 gas)
theorem XAY:Tells ctx PP 115 cv86 cv15 (fun a=>Fq a.1 a.2):=
 have b:∀ z0,CutIs ctx PP 115 Tryz.f115 [] [(163,AAE z0)] cv15 JAO (DAE z0):=fun z0 _ s=>by cases s <;> kernel_rfl
 have e:∀ z0,EntryIs ctx PP 115 [] [(163,AAE z0)] cv86 cv15 JAO (fun k a=>CAE z0 k a.1 a.2):=fun z0 _ a=>by kernel_rfl
 fn_ok (hc IAO hl_nil) Tryz.func115 (fun s s' h=>by cases s;cases s';cases h;rfl) (fun _=>rfl) (fun _ _=>rfl) (b Yf) (e Yf) gas
noncomputable def YAY {γ:Type} (F:BAE):Hd ctx γ:=hdl cv86.dec (fun a=>F a.1 a.2) cv15.enc
abbrev EAE:=SBook→Int→Option Int
noncomputable def FAE (z0:BAE) (a_0:SBook) (left_1:Int):Option Int:=
 bif (decide ((w64 (left_1 - (a_0.fWord.size:Int)))<0)) then
 some (-(1:Int))
 else
 (z0 a_0.fThings (w64 (left_1 - (a_0.fWord.size:Int)))).bind fun r0=>
 bif (decide (r0<0)) then
  some (-(1:Int))
 else
  bif (decide ((w64 (r0 - (a_0.fChain.size:Int)))<0)) then
  some (-(1:Int))
  else
  some (w64 (r0 - (a_0.fChain.size:Int)))
noncomputable def Gq:EAE:=FAE Fq
theorem ZAY:Tells ctx PP 46 cv87 cv15 (fun a=>Gq a.1 a.2):=fn_ok0 (hc XAY hl_nil) Tryz.func46 ((fun z0 a=>by kernel_rfl:∀ z0,EntryIs0 ctx PP 46 [] [(115,YAY z0)] cv87 cv15 fun a=>FAE z0 a.1 a.2) Fq)
noncomputable def AAZ {γ:Type} (F:EAE):Hd ctx γ:=hdl cv87.dec (fun a=>F a.1 a.2) cv15.enc
abbrev GAE:=(List SSession)→Int→Option Int
noncomputable def KAO (a_0:(List SSession)) (left_1:Int):Option Int:=
 bif (decide ((w64 (left_1 - (a_0.length:Int)))<0)) then
 some (-(1:Int))
 else
 some (w64 (left_1 - (a_0.length:Int)))
noncomputable def Y4:GAE:=KAO
theorem BAZ:Tells ctx PP 47 cv88 cv15 (fun a=>Y4 a.1 a.2):=fn_ok0 hl_nil Tryz.func47 (fun a=>by kernel_rfl:EntryIs0 ctx PP 47 [] [] cv88 cv15 fun a=>KAO a.1 a.2)
noncomputable def CAZ {γ:Type} (F:GAE):Hd ctx γ:=hdl cv88.dec (fun a=>F a.1 a.2) cv15.enc
abbrev HAE:=(List SLive)→Int→Option Int
noncomputable def LAO (a_0:(List SLive)) (left_1:Int):Option Int:=
 bif (decide ((w64 (left_1 - (a_0.length:Int)))<0)) then
 some (-(1:Int))
 else
 some (w64 (left_1 - (a_0.length:Int)))
noncomputable def Z4:HAE:=LAO
theorem DAZ:Tells ctx PP 48 cv89 cv15 (fun a=>Z4 a.1 a.2):=fn_ok0 hl_nil Tryz.func48 (fun a=>by kernel_rfl:EntryIs0 ctx PP 48 [] [] cv89 cv15 fun a=>LAO a.1 a.2)
noncomputable def EAZ {γ:Type} (F:HAE):Hd ctx γ:=hdl cv89.dec (fun a=>F a.1 a.2) cv15.enc
abbrev IAE:=SBox→Int→Option Int
noncomputable def D5 (z0:YAD) (z1:EAE) (z2:GAE) (z3:HAE) (a_0:SBox) (left_1:Int):Option Int:=
 bif (decide ((w64 (left_1 - (a_0.fKey.size:Int)))<0)) then
 some (-(1:Int))
 else
 (z0 a_0.fDisk (w64 (left_1 - (a_0.fKey.size:Int)))).bind fun r0=>
 bif (decide (r0<0)) then
  some (-(1:Int))
 else
  (z1 a_0.fBook r0).bind fun r1=>
  bif (decide (r1<0)) then
  some (-(1:Int))
  else
  (z2 a_0.fSessions r1).bind fun r2=>
  bif (decide (r2<0)) then
   some (-(1:Int))
  else
   (z3 a_0.fLives r2).bind fun r3=>
   bif (decide (r3<0)) then
   some (-(1:Int))
   else
   some r3
noncomputable def Jh:IAE:=D5 Aq Gq Y4 Z4
theorem FAZ:Tells ctx PP 13 cv90 cv15 (fun a=>Jh a.1 a.2):=fn_ok0 (hc UAY (hc ZAY (hc BAZ (hc DAZ hl_nil)))) Tryz.func13 ((fun z0 z1 z2 z3 a=>by kernel_rfl:∀ z0 z1 z2 z3,EntryIs0 ctx PP 13 [] [(45,VAY z0),(46,AAZ z1),(47,CAZ z2),(48,EAZ z3)] cv90 cv15 fun a=>D5 z0 z1 z2 z3 a.1 a.2) Aq Gq Y4 Z4)
noncomputable def GAZ {γ:Type} (F:IAE):Hd ctx γ:=hdl cv90.dec (fun a=>F a.1 a.2) cv15.enc
abbrev JAE:=(List Int)→Int→Option Int
noncomputable def MAO (a_0:(List Int)) (left_1:Int):Option Int:=
 bif (decide ((w64 (left_1 - (a_0.length:Int)))<0)) then
 some (-(1:Int))
 else
 some (w64 (left_1 - (a_0.length:Int)))
noncomputable def E5:JAE:=MAO
theorem HAZ:Tells ctx PP 65 cv121 cv15 (fun a=>E5 a.1 a.2):=fn_ok0 hl_nil Tryz.func65 (fun a=>by kernel_rfl:EntryIs0 ctx PP 65 [] [] cv121 cv15 fun a=>MAO a.1 a.2)
noncomputable def IAZ {γ:Type} (F:JAE):Hd ctx γ:=hdl cv121.dec (fun a=>F a.1 a.2) cv15.enc
abbrev KAE:=(List ByteArray)→Int→Option Int
inductive Hq where
 | c0 (a_0:(List ByteArray)) (left_1:Int) (i_5:Int)
noncomputable def NAO:Hq→LI
 | .c0 a_0 left_1 i_5=>(tdo Tryz.f66 976,[(0,[.one (.rsl 9 a_0)]),(1,[.one (.int .i64 left_1)]),(5,[.one (.int .i64 i_5)])],[])
noncomputable def LAE (k:Hq→Option Int) (a_0:(List ByteArray)) (left_1:Int):Option Int:=
 bif (decide ((w64 (left_1 - (a_0.length:Int)))<0)) then
 some (-(1:Int))
 else
 k (.c0 a_0 (w64 (left_1 - (a_0.length:Int))) 0)
noncomputable def MAE (k:Hq→Option Int):Hq→Option Int
 | .c0 a_0 left_1 i_5=>
 bif (decide (i_5<(a_0.length:Int))) then
  bif ((decide (0≤i_5)) && (decide (i_5<(a_0.length:Int)))) then
  bif (decide ((w64 (left_1 - ((a_0.getD i_5.toNat (⟨#[]⟩:ByteArray)).size:Int)))<0)) then
  some (-(1:Int))
  else
  k (.c0 a_0 (w64 (left_1 - ((a_0.getD i_5.toNat (⟨#[]⟩:ByteArray)).size:Int))) (w64 (i_5+1)))
  else none
 else
  some left_1
noncomputable def F5:Nat→Hq→Option Int
 | 0,_=>none
 | m+1,s=>MAE (F5 m) s
noncomputable def Iq:KAE:=LAE (F5 gas)
theorem JAZ:Tells ctx PP 66 cv122 cv15 (fun a=>Iq a.1 a.2):=
 have b:CutIs ctx PP 66 Tryz.f66 [] [] cv15 NAO (MAE):=fun _ s=>by cases s <;> kernel_rfl
 have e:EntryIs ctx PP 66 [] [] cv122 cv15 NAO (fun k a=>LAE k a.1 a.2):=fun _ a=>by kernel_rfl
 fn_ok hl_nil Tryz.func66 (fun s s' h=>by cases s;cases s';cases h;rfl) (fun _=>rfl) (fun _ _=>rfl) b e gas
noncomputable def KAZ {γ:Type} (F:KAE):Hd ctx γ:=hdl cv122.dec (fun a=>F a.1 a.2) cv15.enc
abbrev NAE:=(List SGiven)→Int→Option Int
noncomputable def OAO (a_0:(List SGiven)) (left_1:Int):Option Int:=
 bif (decide ((w64 (left_1 - (a_0.length:Int)))<0)) then
 some (-(1:Int))
 else
 some (w64 (left_1 - (a_0.length:Int)))
noncomputable def G5:NAE:=OAO
theorem LAZ:Tells ctx PP 67 cv123 cv15 (fun a=>G5 a.1 a.2):=fn_ok0 hl_nil Tryz.func67 (fun a=>by kernel_rfl:EntryIs0 ctx PP 67 [] [] cv123 cv15 fun a=>OAO a.1 a.2)
noncomputable def MAZ {γ:Type} (F:NAE):Hd ctx γ:=hdl cv123.dec (fun a=>F a.1 a.2) cv15.enc
abbrev I5:=SRec→Int→Option Int
noncomputable def OAE (z0:Bq) (a_0:SRec) (left_1:Int):Option Int:=
 bif (decide ((w64 (left_1 - (a_0.fText.size:Int)))<0)) then
 some (-(1:Int))
 else
 (z0 a_0.fThing (w64 (left_1 - (a_0.fText.size:Int)))).bind fun r0=>
 bif (decide (r0<0)) then
  some (-(1:Int))
 else
  some r0
noncomputable def Lh:I5:=OAE Yf
theorem NAZ:Tells ctx PP 131 cv124 cv15 (fun a=>Lh a.1 a.2):=fn_ok0 (hc IAO hl_nil) Tryz.func131 ((fun z0 a=>by kernel_rfl:∀ z0,EntryIs0 ctx PP 131 [] [(163,AAE z0)] cv124 cv15 fun a=>OAE z0 a.1 a.2) Yf)
noncomputable def PAO {γ:Type} (F:I5):Hd ctx γ:=hdl cv124.dec (fun a=>F a.1 a.2) cv15.enc
abbrev PAE:=(List SRec)→Int→Option Int
inductive Jq where
 | c0 (a_0:(List SRec)) (left_1:Int) (i_5:Int)
noncomputable def QAO:Jq→LI
 | .c0 a_0 left_1 i_5=>(tdo Tryz.f68 976,[(0,[.one (.rsl 173 a_0)]),(1,[.one (.int .i64 left_1)]),(5,[.one (.int .i64 i_5)])],[])
noncomputable def QAE (z0:I5) (k:Jq→Option Int) (a_0:(List SRec)) (left_1:Int):Option Int:=
 bif (decide ((w64 (left_1 - (a_0.length:Int)))<0)) then
 some (-(1:Int))
 else
 k (.c0 a_0 (w64 (left_1 - (a_0.length:Int))) 0)
noncomputable def RAE (z0:I5) (k:Jq→Option Int):Jq→Option Int
 | .c0 a_0 left_1 i_5=>
 bif (decide (i_5<(a_0.length:Int))) then
  bif ((decide (0≤i_5)) && (decide (i_5<(a_0.length:Int)))) then
  (z0 (a_0.getD i_5.toNat (⟨0,⟨#[]⟩,0,⟨0,0,false,false,false,false,⟨#[]⟩,0⟩⟩:SRec)) left_1).bind fun r0=>
  bif (decide (r0<0)) then
  some (-(1:Int))
  else
  k (.c0 a_0 r0 (w64 (i_5+1)))
  else none
 else
  some left_1
noncomputable def J5:Nat→Jq→Option Int
 | 0,_=>none
 | m+1,s=>RAE Lh (J5 m) s
noncomputable def Kq:PAE:=QAE Lh (J5 gas)
theorem OAZ:Tells ctx PP 68 cv125 cv15 (fun a=>Kq a.1 a.2):=
 have b:∀ z0,CutIs ctx PP 68 Tryz.f68 [] [(131,PAO z0)] cv15 QAO (RAE z0):=fun z0 _ s=>by cases s <;> kernel_rfl
 have e:∀ z0,EntryIs ctx PP 68 [] [(131,PAO z0)] cv125 cv15 QAO (fun k a=>QAE z0 k a.1 a.2):=fun z0 _ a=>by kernel_rfl
 fn_ok (hc NAZ hl_nil) Tryz.func68 (fun s s' h=>by cases s;cases s';cases h;rfl) (fun _=>rfl) (fun _ _=>rfl) (b Lh) (e Lh) gas
noncomputable def PAZ {γ:Type} (F:PAE):Hd ctx γ:=hdl cv125.dec (fun a=>F a.1 a.2) cv15.enc
abbrev QAD:=SLife→Int→Option Int
noncomputable def O5 (z0:IAE) (z1:JAE) (z2:KAE) (z3:NAE) (z4:PAE) (a_0:SLife) (left_1:Int):Option Int:=
 (z0 a_0.fBox left_1).bind fun r0=>
 bif (decide (r0<0)) then
 some (-(1:Int))
 else
 (z1 a_0.fCodes r0).bind fun r1=>
 bif (decide (r1<0)) then
  some (-(1:Int))
 else
  (z2 a_0.fReplies r1).bind fun r2=>
  bif (decide (r2<0)) then
  some (-(1:Int))
  else
  (z3 a_0.fGives r2).bind fun r3=>
  bif (decide (r3<0)) then
   some (-(1:Int))
  else
   (z4 a_0.fDone r3).bind fun r4=>
   bif (decide (r4<0)) then
   some (-(1:Int))
   else
   some r4
noncomputable def Gh:QAD:=O5 Jh E5 Iq G5 Kq
theorem FAY:Tells ctx PP 17 cv126 cv15 (fun a=>Gh a.1 a.2):=fn_ok0 (hc FAZ (hc HAZ (hc JAZ (hc LAZ (hc OAZ hl_nil))))) Tryz.func17 ((fun z0 z1 z2 z3 z4 a=>by kernel_rfl:∀ z0 z1 z2 z3 z4,EntryIs0 ctx PP 17 [] [(13,GAZ z0),(65,IAZ z1),(66,KAZ z2),(67,MAZ z3),(68,PAZ z4)] cv126 cv15 fun a=>O5 z0 z1 z2 z3 z4 a.1 a.2) Jh E5 Iq G5 Kq)
noncomputable def JAY {γ:Type} (F:QAD):Hd ctx γ:=hdl cv126.dec (fun a=>F a.1 a.2) cv15.enc
abbrev P5:=SFile→Option SFile
noncomputable def SAE (a_0:SFile):Option SFile:=
 some a_0
noncomputable def Nh:P5:=SAE
theorem QAZ:Tells ctx PP 167 cv91 cv91 (fun a=>Nh a):=fn_ok0 hl_nil Tryz.func167 (fun a=>by kernel_rfl:EntryIs0 ctx PP 167 [] [] cv91 cv91 fun a=>SAE a)
noncomputable def RAO {γ:Type} (F:P5):Hd ctx γ:=hdl cv91.dec (fun a=>F a) cv91.enc
abbrev TAE:=(List SFile)→Option (List SFile)
inductive Nq where
 | c0 (a_0:(List SFile)) (i_4:Int) (out_3:(List SFile))
noncomputable def SAO:Nq→LI
 | .c0 a_0 i_4 out_3=>(tdo Tryz.f121 464,[(0,[.one (.rsl 197 a_0)]),(3,[.one (.own 240)]),(4,[.one (.int .i64 i_4)])],[(240,.sl 155 out_3)])
noncomputable def UAE (z0:P5) (k:Nq→Option (List SFile)) (a_0:(List SFile)):Option (List SFile):=
 bif ((((decide (0≤(a_0.length:Int))) && (decide ((a_0.length:Int)≤(a_0.length:Int)))) && (decide ((a_0.length:Int)≤9223372036854775807))) && (decide (((a_0.length:Int).toNat*40)≤140737488355328))) then
 k (.c0 a_0 0 (List.replicate (a_0.length:Int).toNat (⟨⟨#[]⟩,⟨#[]⟩,0⟩:SFile)))
 else none
noncomputable def Q5 (z0:P5) (k:Nq→Option (List SFile)):Nq→Option (List SFile)
 | .c0 a_0 i_4 out_3=>
 bif (decide (i_4<(a_0.length:Int))) then
  bif ((decide (0≤i_4)) && (decide (i_4<(a_0.length:Int)))) then
  (z0 (a_0.getD i_4.toNat (⟨⟨#[]⟩,⟨#[]⟩,0⟩:SFile))).bind fun r0=>
  bif ((decide (0≤i_4)) && (decide (i_4<(out_3.length:Int)))) then
  k (.c0 a_0 (w64 (i_4+1)) (out_3.set i_4.toNat r0))
  else none
  else none
 else
  some out_3
noncomputable def Oh:Nat→Nq→Option (List SFile)
 | 0,_=>none
 | m+1,s=>Q5 Nh (Oh m) s
noncomputable def Oq:TAE:=UAE Nh (Oh gas)
theorem RAZ:Tells ctx PP 121 cv92 cv93 (fun a=>Oq a):=
 have b:∀ z0,CutIs ctx PP 121 Tryz.f121 [] [(167,RAO z0)] cv93 SAO (Q5 z0):=fun z0 _ s=>by cases s <;> kernel_rfl
 have e:∀ z0,EntryIs ctx PP 121 [] [(167,RAO z0)] cv92 cv93 SAO (fun k a=>UAE z0 k a):=fun z0 _ a=>by kernel_rfl
 fn_ok (hc QAZ hl_nil) Tryz.func121 (fun s s' h=>by cases s;cases s';cases h;rfl) (fun _=>rfl) (fun _ _=>rfl) (b Nh) (e Nh) gas
noncomputable def SAZ {γ:Type} (F:TAE):Hd ctx γ:=hdl cv92.dec (fun a=>F a) cv93.enc
abbrev VAE:=SDisk→Option SDisk
noncomputable def WAE (z0:TAE) (a_0:SDisk):Option SDisk:=
 (z0 a_0.fFiles).bind fun r0=>
 some ⟨r0⟩
noncomputable def Pq:VAE:=WAE Oq
theorem TAZ:Tells ctx PP 55 cv94 cv38 (fun a=>Pq a):=fn_ok0 (hc RAZ hl_nil) Tryz.func55 ((fun z0 a=>by kernel_rfl:∀ z0,EntryIs0 ctx PP 55 [] [(121,SAZ z0)] cv94 cv38 fun a=>WAE z0 a) Oq)
noncomputable def UAZ {γ:Type} (F:VAE):Hd ctx γ:=hdl cv94.dec (fun a=>F a) cv38.enc
abbrev Qq:=SThing→Option SThing
noncomputable def XAE (a_0:SThing):Option SThing:=
 some a_0
noncomputable def He:Qq:=XAE
theorem TAO:Tells ctx PP 168 cv16 cv16 (fun a=>He a):=fn_ok0 hl_nil Tryz.func168 (fun a=>by kernel_rfl:EntryIs0 ctx PP 168 [] [] cv16 cv16 fun a=>XAE a)
noncomputable def YAE {γ:Type} (F:Qq):Hd ctx γ:=hdl cv16.dec (fun a=>F a) cv16.enc
abbrev ZAE:=(List SThing)→Option (List SThing)
inductive Rq where
 | c0 (a_0:(List SThing)) (i_4:Int) (out_3:(List SThing))
noncomputable def UAO:Rq→LI
 | .c0 a_0 i_4 out_3=>(tdo Tryz.f122 464,[(0,[.one (.rsl 171 a_0)]),(3,[.one (.own 240)]),(4,[.one (.int .i64 i_4)])],[(240,.sl 69 out_3)])
noncomputable def AAF (z0:Qq) (k:Rq→Option (List SThing)) (a_0:(List SThing)):Option (List SThing):=
 bif ((((decide (0≤(a_0.length:Int))) && (decide ((a_0.length:Int)≤(a_0.length:Int)))) && (decide ((a_0.length:Int)≤9223372036854775807))) && (decide (((a_0.length:Int).toNat*48)≤140737488355328))) then
 k (.c0 a_0 0 (List.replicate (a_0.length:Int).toNat (⟨0,0,false,false,false,false,⟨#[]⟩,0⟩:SThing)))
 else none
noncomputable def U5 (z0:Qq) (k:Rq→Option (List SThing)):Rq→Option (List SThing)
 | .c0 a_0 i_4 out_3=>
 bif (decide (i_4<(a_0.length:Int))) then
  bif ((decide (0≤i_4)) && (decide (i_4<(a_0.length:Int)))) then
  (z0 (a_0.getD i_4.toNat (⟨0,0,false,false,false,false,⟨#[]⟩,0⟩:SThing))).bind fun r0=>
  bif ((decide (0≤i_4)) && (decide (i_4<(out_3.length:Int)))) then
  k (.c0 a_0 (w64 (i_4+1)) (out_3.set i_4.toNat r0))
  else none
  else none
 else
  some out_3
noncomputable def Ph:Nat→Rq→Option (List SThing)
 | 0,_=>none
 | m+1,s=>U5 He (Ph m) s
noncomputable def Tq:ZAE:=AAF He (Ph gas)
theorem VAZ:Tells ctx PP 122 cv95 cv25 (fun a=>Tq a):=
 have b:∀ z0,CutIs ctx PP 122 Tryz.f122 [] [(168,YAE z0)] cv25 UAO (U5 z0):=fun z0 _ s=>by cases s <;> kernel_rfl
 have e:∀ z0,EntryIs ctx PP 122 [] [(168,YAE z0)] cv95 cv25 UAO (fun k a=>AAF z0 k a):=fun z0 _ a=>by kernel_rfl
 fn_ok (hc TAO hl_nil) Tryz.func122 (fun s s' h=>by cases s;cases s';cases h;rfl) (fun _=>rfl) (fun _ _=>rfl) (b He) (e He) gas
noncomputable def WAZ {γ:Type} (F:ZAE):Hd ctx γ:=hdl cv95.dec (fun a=>F a) cv25.enc
abbrev BAF:=SBook→Option SBook
noncomputable def CAF (z0:ZAE) (a_0:SBook):Option SBook:=
 (z0 a_0.fThings).bind fun r0=>
 some ⟨a_0.fWord,a_0.fTries,r0,a_0.fLast,a_0.fChain,a_0.fCount⟩
noncomputable def Vq:BAF:=CAF Tq
theorem XAZ:Tells ctx PP 56 cv96 cv14 (fun a=>Vq a):=fn_ok0 (hc VAZ hl_nil) Tryz.func56 ((fun z0 a=>by kernel_rfl:∀ z0,EntryIs0 ctx PP 56 [] [(122,WAZ z0)] cv96 cv14 fun a=>CAF z0 a) Tq)
noncomputable def YAZ {γ:Type} (F:BAF):Hd ctx γ:=hdl cv96.dec (fun a=>F a) cv14.enc
abbrev V5:=SSession→Option SSession
noncomputable def DAF (a_0:SSession):Option SSession:=
 some a_0
noncomputable def Qh:V5:=DAF
theorem ZAZ:Tells ctx PP 123 cv97 cv97 (fun a=>Qh a):=fn_ok0 hl_nil Tryz.func123 (fun a=>by kernel_rfl:EntryIs0 ctx PP 123 [] [] cv97 cv97 fun a=>DAF a)
noncomputable def VAO {γ:Type} (F:V5):Hd ctx γ:=hdl cv97.dec (fun a=>F a) cv97.enc
abbrev EAF:=(List SSession)→Option (List SSession)
inductive Wq where
 | c0 (a_0:(List SSession)) (i_4:Int) (out_3:(List SSession))
noncomputable def WAO:Wq→LI
 | .c0 a_0 i_4 out_3=>(tdo Tryz.f57 464,[(0,[.one (.rsl 167 a_0)]),(3,[.one (.own 240)]),(4,[.one (.int .i64 i_4)])],[(240,.sl 92 out_3)])
noncomputable def FAF (z0:V5) (k:Wq→Option (List SSession)) (a_0:(List SSession)):Option (List SSession):=
 bif ((((decide (0≤(a_0.length:Int))) && (decide ((a_0.length:Int)≤(a_0.length:Int)))) && (decide ((a_0.length:Int)≤9223372036854775807))) && (decide (((a_0.length:Int).toNat*16)≤140737488355328))) then
 k (.c0 a_0 0 (List.replicate (a_0.length:Int).toNat (⟨0,false⟩:SSession)))
 else none
noncomputable def X5 (z0:V5) (k:Wq→Option (List SSession)):Wq→Option (List SSession)
 | .c0 a_0 i_4 out_3=>
 bif (decide (i_4<(a_0.length:Int))) then
  bif ((decide (0≤i_4)) && (decide (i_4<(a_0.length:Int)))) then
  (z0 (a_0.getD i_4.toNat (⟨0,false⟩:SSession))).bind fun r0=>
  bif ((decide (0≤i_4)) && (decide (i_4<(out_3.length:Int)))) then
  k (.c0 a_0 (w64 (i_4+1)) (out_3.set i_4.toNat r0))
  else none
  else none
 else
  some out_3
noncomputable def Rh:Nat→Wq→Option (List SSession)
 | 0,_=>none
 | m+1,s=>X5 Qh (Rh m) s
noncomputable def Xq:EAF:=FAF Qh (Rh gas)
theorem AAa:Tells ctx PP 57 cv98 cv99 (fun a=>Xq a):=
 have b:∀ z0,CutIs ctx PP 57 Tryz.f57 [] [(123,VAO z0)] cv99 WAO (X5 z0):=fun z0 _ s=>by cases s <;> kernel_rfl
 have e:∀ z0,EntryIs ctx PP 57 [] [(123,VAO z0)] cv98 cv99 WAO (fun k a=>FAF z0 k a):=fun z0 _ a=>by kernel_rfl
 fn_ok (hc ZAZ hl_nil) Tryz.func57 (fun s s' h=>by cases s;cases s';cases h;rfl) (fun _=>rfl) (fun _ _=>rfl) (b Qh) (e Qh) gas
noncomputable def BAa {γ:Type} (F:EAF):Hd ctx γ:=hdl cv98.dec (fun a=>F a) cv99.enc
abbrev Y5:=SLive→Option SLive
noncomputable def GAF (a_0:SLive):Option SLive:=
 some a_0
noncomputable def Uh:Y5:=GAF
theorem CAa:Tells ctx PP 124 cv100 cv100 (fun a=>Uh a):=fn_ok0 hl_nil Tryz.func124 (fun a=>by kernel_rfl:EntryIs0 ctx PP 124 [] [] cv100 cv100 fun a=>GAF a)
noncomputable def XAO {γ:Type} (F:Y5):Hd ctx γ:=hdl cv100.dec (fun a=>F a) cv100.enc
abbrev HAF:=(List SLive)→Option (List SLive)
inductive Yq where
 | c0 (a_0:(List SLive)) (i_4:Int) (out_3:(List SLive))
noncomputable def YAO:Yq→LI
 | .c0 a_0 i_4 out_3=>(tdo Tryz.f58 464,[(0,[.one (.rsl 169 a_0)]),(3,[.one (.own 240)]),(4,[.one (.int .i64 i_4)])],[(240,.sl 149 out_3)])
noncomputable def IAF (z0:Y5) (k:Yq→Option (List SLive)) (a_0:(List SLive)):Option (List SLive):=
 bif ((((decide (0≤(a_0.length:Int))) && (decide ((a_0.length:Int)≤(a_0.length:Int)))) && (decide ((a_0.length:Int)≤9223372036854775807))) && (decide (((a_0.length:Int).toNat*16)≤140737488355328))) then
 k (.c0 a_0 0 (List.replicate (a_0.length:Int).toNat (⟨0,0⟩:SLive)))
 else none
noncomputable def Z5 (z0:Y5) (k:Yq→Option (List SLive)):Yq→Option (List SLive)
 | .c0 a_0 i_4 out_3=>
 bif (decide (i_4<(a_0.length:Int))) then
  bif ((decide (0≤i_4)) && (decide (i_4<(a_0.length:Int)))) then
  (z0 (a_0.getD i_4.toNat (⟨0,0⟩:SLive))).bind fun r0=>
  bif ((decide (0≤i_4)) && (decide (i_4<(out_3.length:Int)))) then
  k (.c0 a_0 (w64 (i_4+1)) (out_3.set i_4.toNat r0))
  else none
  else none
 else
  some out_3
noncomputable def Vh:Nat→Yq→Option (List SLive)
 | 0,_=>none
 | m+1,s=>Z5 Uh (Vh m) s
noncomputable def Zq:HAF:=IAF Uh (Vh gas)
theorem DAa:Tells ctx PP 58 cv101 cv102 (fun a=>Zq a):=
 have b:∀ z0,CutIs ctx PP 58 Tryz.f58 [] [(124,XAO z0)] cv102 YAO (Z5 z0):=fun z0 _ s=>by cases s <;> kernel_rfl
 have e:∀ z0,EntryIs ctx PP 58 [] [(124,XAO z0)] cv101 cv102 YAO (fun k a=>IAF z0 k a):=fun z0 _ a=>by kernel_rfl
 fn_ok (hc CAa hl_nil) Tryz.func58 (fun s s' h=>by cases s;cases s';cases h;rfl) (fun _=>rfl) (fun _ _=>rfl) (b Uh) (e Uh) gas
noncomputable def EAa {γ:Type} (F:HAF):Hd ctx γ:=hdl cv101.dec (fun a=>F a) cv102.enc
abbrev JAF:=SBox→Option SBox
noncomputable def KAF (z0:VAE) (z1:BAF) (z2:EAF) (z3:HAF) (a_0:SBox):Option SBox:=
 (z0 a_0.fDisk).bind fun r0=>
 (z1 a_0.fBook).bind fun r1=>
 (z2 a_0.fSessions).bind fun r2=>
 (z3 a_0.fLives).bind fun r3=>
 some ⟨a_0.fKey,a_0.fUp,r0,r1,r2,r3,a_0.fOpened⟩
noncomputable def Ar:JAF:=KAF Pq Vq Xq Zq
theorem FAa:Tells ctx PP 15 cv103 cv104 (fun a=>Ar a):=fn_ok0 (hc TAZ (hc XAZ (hc AAa (hc DAa hl_nil)))) Tryz.func15 ((fun z0 z1 z2 z3 a=>by kernel_rfl:∀ z0 z1 z2 z3,EntryIs0 ctx PP 15 [] [(55,UAZ z0),(56,YAZ z1),(57,BAa z2),(58,EAa z3)] cv103 cv104 fun a=>KAF z0 z1 z2 z3 a) Pq Vq Xq Zq)
noncomputable def GAa {γ:Type} (F:JAF):Hd ctx γ:=hdl cv103.dec (fun a=>F a) cv104.enc
abbrev LAF:=(List Int)→Option (List Int)
inductive Hr where
 | c0 (a_0:(List Int)) (i_4:Int) (out_3:(List Int))
noncomputable def ZAO:Hr→LI
 | .c0 a_0 i_4 out_3=>(tdo Tryz.f70 464,[(0,[.one (.rsl 3 a_0)]),(3,[.one (.own 240)]),(4,[.one (.int .i64 i_4)])],[(240,.sl 3 out_3)])
noncomputable def MAF (k:Hr→Option (List Int)) (a_0:(List Int)):Option (List Int):=
 bif ((((decide (0≤(a_0.length:Int))) && (decide ((a_0.length:Int)≤(a_0.length:Int)))) && (decide ((a_0.length:Int)≤9223372036854775807))) && (decide (((a_0.length:Int).toNat*8)≤140737488355328))) then
 k (.c0 a_0 0 (List.replicate (a_0.length:Int).toNat (0:Int)))
 else none
noncomputable def D6 (k:Hr→Option (List Int)):Hr→Option (List Int)
 | .c0 a_0 i_4 out_3=>
 bif (decide (i_4<(a_0.length:Int))) then
  bif ((decide (0≤i_4)) && (decide (i_4<(a_0.length:Int)))) then
  bif ((decide (0≤i_4)) && (decide (i_4<(out_3.length:Int)))) then
  k (.c0 a_0 (w64 (i_4+1)) (out_3.set i_4.toNat (a_0.getD i_4.toNat 0)))
  else none
  else none
 else
  some out_3
noncomputable def Wh:Nat→Hr→Option (List Int)
 | 0,_=>none
 | m+1,s=>D6 (Wh m) s
noncomputable def Ir:LAF:=MAF (Wh gas)
theorem HAa:Tells ctx PP 70 cv127 cv128 (fun a=>Ir a):=
 have b:CutIs ctx PP 70 Tryz.f70 [] [] cv128 ZAO (D6):=fun _ s=>by cases s <;> kernel_rfl
 have e:EntryIs ctx PP 70 [] [] cv127 cv128 ZAO (fun k a=>MAF k a):=fun _ a=>by kernel_rfl
 fn_ok hl_nil Tryz.func70 (fun s s' h=>by cases s;cases s';cases h;rfl) (fun _=>rfl) (fun _ _=>rfl) b e gas
noncomputable def IAa {γ:Type} (F:LAF):Hd ctx γ:=hdl cv127.dec (fun a=>F a) cv128.enc
abbrev NAF:=(List ByteArray)→Option (List ByteArray)
inductive Jr where
 | c0 (a_0:(List ByteArray)) (i_4:Int) (out_3:(List ByteArray))
noncomputable def AAP:Jr→LI
 | .c0 a_0 i_4 out_3=>(tdo Tryz.f71 464,[(0,[.one (.rsl 9 a_0)]),(3,[.one (.own 240)]),(4,[.one (.int .i64 i_4)])],[(240,.sl 9 out_3)])
noncomputable def OAF (k:Jr→Option (List ByteArray)) (a_0:(List ByteArray)):Option (List ByteArray):=
 bif ((((decide (0≤(a_0.length:Int))) && (decide ((a_0.length:Int)≤(a_0.length:Int)))) && (decide ((a_0.length:Int)≤9223372036854775807))) && (decide (((a_0.length:Int).toNat*16)≤140737488355328))) then
 k (.c0 a_0 0 (List.replicate (a_0.length:Int).toNat (⟨#[]⟩:ByteArray)))
 else none
noncomputable def F6 (k:Jr→Option (List ByteArray)):Jr→Option (List ByteArray)
 | .c0 a_0 i_4 out_3=>
 bif (decide (i_4<(a_0.length:Int))) then
  bif ((decide (0≤i_4)) && (decide (i_4<(a_0.length:Int)))) then
  bif ((decide (0≤i_4)) && (decide (i_4<(out_3.length:Int)))) then
  k (.c0 a_0 (w64 (i_4+1)) (out_3.set i_4.toNat (a_0.getD i_4.toNat (⟨#[]⟩:ByteArray))))
  else none
  else none
 else
  some out_3
noncomputable def Xh:Nat→Jr→Option (List ByteArray)
 | 0,_=>none
 | m+1,s=>F6 (Xh m) s
noncomputable def Kr:NAF:=OAF (Xh gas)
theorem JAa:Tells ctx PP 71 cv129 cv130 (fun a=>Kr a):=
 have b:CutIs ctx PP 71 Tryz.f71 [] [] cv130 AAP (F6):=fun _ s=>by cases s <;> kernel_rfl
 have e:EntryIs ctx PP 71 [] [] cv129 cv130 AAP (fun k a=>OAF k a):=fun _ a=>by kernel_rfl
 fn_ok hl_nil Tryz.func71 (fun s s' h=>by cases s;cases s';cases h;rfl) (fun _=>rfl) (fun _ _=>rfl) b e gas
noncomputable def KAa {γ:Type} (F:NAF):Hd ctx γ:=hdl cv129.dec (fun a=>F a) cv130.enc
abbrev G6:=SGiven→Option SGiven
noncomputable def PAF (a_0:SGiven):Option SGiven:=
 some a_0
noncomputable def Yh:G6:=PAF
theorem LAa:Tells ctx PP 132 cv131 cv131 (fun a=>Yh a):=fn_ok0 hl_nil Tryz.func132 (fun a=>by kernel_rfl:EntryIs0 ctx PP 132 [] [] cv131 cv131 fun a=>PAF a)
noncomputable def BAP {γ:Type} (F:G6):Hd ctx γ:=hdl cv131.dec (fun a=>F a) cv131.enc
abbrev QAF:=(List SGiven)→Option (List SGiven)
inductive Lr where
 | c0 (a_0:(List SGiven)) (i_4:Int) (out_3:(List SGiven))
noncomputable def CAP:Lr→LI
 | .c0 a_0 i_4 out_3=>(tdo Tryz.f72 464,[(0,[.one (.rsl 175 a_0)]),(3,[.one (.own 240)]),(4,[.one (.int .i64 i_4)])],[(240,.sl 117 out_3)])
noncomputable def RAF (z0:G6) (k:Lr→Option (List SGiven)) (a_0:(List SGiven)):Option (List SGiven):=
 bif ((((decide (0≤(a_0.length:Int))) && (decide ((a_0.length:Int)≤(a_0.length:Int)))) && (decide ((a_0.length:Int)≤9223372036854775807))) && (decide (((a_0.length:Int).toNat*24)≤140737488355328))) then
 k (.c0 a_0 0 (List.replicate (a_0.length:Int).toNat (⟨0,0,0⟩:SGiven)))
 else none
noncomputable def H6 (z0:G6) (k:Lr→Option (List SGiven)):Lr→Option (List SGiven)
 | .c0 a_0 i_4 out_3=>
 bif (decide (i_4<(a_0.length:Int))) then
  bif ((decide (0≤i_4)) && (decide (i_4<(a_0.length:Int)))) then
  (z0 (a_0.getD i_4.toNat (⟨0,0,0⟩:SGiven))).bind fun r0=>
  bif ((decide (0≤i_4)) && (decide (i_4<(out_3.length:Int)))) then
  k (.c0 a_0 (w64 (i_4+1)) (out_3.set i_4.toNat r0))
  else none
  else none
 else
  some out_3
noncomputable def Zh:Nat→Lr→Option (List SGiven)
 | 0,_=>none
 | m+1,s=>H6 Yh (Zh m) s
noncomputable def Nr:QAF:=RAF Yh (Zh gas)
theorem MAa:Tells ctx PP 72 cv132 cv133 (fun a=>Nr a):=
 have b:∀ z0,CutIs ctx PP 72 Tryz.f72 [] [(132,BAP z0)] cv133 CAP (H6 z0):=fun z0 _ s=>by cases s <;> kernel_rfl
 have e:∀ z0,EntryIs ctx PP 72 [] [(132,BAP z0)] cv132 cv133 CAP (fun k a=>RAF z0 k a):=fun z0 _ a=>by kernel_rfl
 fn_ok (hc LAa hl_nil) Tryz.func72 (fun s s' h=>by cases s;cases s';cases h;rfl) (fun _=>rfl) (fun _ _=>rfl) (b Yh) (e Yh) gas
noncomputable def NAa {γ:Type} (F:QAF):Hd ctx γ:=hdl cv132.dec (fun a=>F a) cv133.enc
abbrev J6:=SRec→Option SRec
noncomputable def SAF (z0:Qq) (a_0:SRec):Option SRec:=
 (z0 a_0.fThing).bind fun r0=>
 some ⟨a_0.fKind,a_0.fText,a_0.fNum,r0⟩
noncomputable def Ai:J6:=SAF He
theorem OAa:Tells ctx PP 133 cv19 cv19 (fun a=>Ai a):=fn_ok0 (hc TAO hl_nil) Tryz.func133 ((fun z0 a=>by kernel_rfl:∀ z0,EntryIs0 ctx PP 133 [] [(168,YAE z0)] cv19 cv19 fun a=>SAF z0 a) He)
noncomputable def DAP {γ:Type} (F:J6):Hd ctx γ:=hdl cv19.dec (fun a=>F a) cv19.enc
abbrev TAF:=(List SRec)→Option (List SRec)
inductive Qr where
 | c0 (a_0:(List SRec)) (i_4:Int) (out_3:(List SRec))
noncomputable def EAP:Qr→LI
 | .c0 a_0 i_4 out_3=>(tdo Tryz.f73 464,[(0,[.one (.rsl 173 a_0)]),(3,[.one (.own 240)]),(4,[.one (.int .i64 i_4)])],[(240,.sl 71 out_3)])
noncomputable def UAF (z0:J6) (k:Qr→Option (List SRec)) (a_0:(List SRec)):Option (List SRec):=
 bif ((((decide (0≤(a_0.length:Int))) && (decide ((a_0.length:Int)≤(a_0.length:Int)))) && (decide ((a_0.length:Int)≤9223372036854775807))) && (decide (((a_0.length:Int).toNat*80)≤140737488355328))) then
 k (.c0 a_0 0 (List.replicate (a_0.length:Int).toNat (⟨0,⟨#[]⟩,0,⟨0,0,false,false,false,false,⟨#[]⟩,0⟩⟩:SRec)))
 else none
noncomputable def L6 (z0:J6) (k:Qr→Option (List SRec)):Qr→Option (List SRec)
 | .c0 a_0 i_4 out_3=>
 bif (decide (i_4<(a_0.length:Int))) then
  bif ((decide (0≤i_4)) && (decide (i_4<(a_0.length:Int)))) then
  (z0 (a_0.getD i_4.toNat (⟨0,⟨#[]⟩,0,⟨0,0,false,false,false,false,⟨#[]⟩,0⟩⟩:SRec))).bind fun r0=>
  bif ((decide (0≤i_4)) && (decide (i_4<(out_3.length:Int)))) then
  k (.c0 a_0 (w64 (i_4+1)) (out_3.set i_4.toNat r0))
  else none
  else none
 else
  some out_3
noncomputable def Ci:Nat→Qr→Option (List SRec)
 | 0,_=>none
 | m+1,s=>L6 Ai (Ci m) s
noncomputable def Sr:TAF:=UAF Ai (Ci gas)
theorem PAa:Tells ctx PP 73 cv134 cv135 (fun a=>Sr a):=
 have b:∀ z0,CutIs ctx PP 73 Tryz.f73 [] [(133,DAP z0)] cv135 EAP (L6 z0):=fun z0 _ s=>by cases s <;> kernel_rfl
 have e:∀ z0,EntryIs ctx PP 73 [] [(133,DAP z0)] cv134 cv135 EAP (fun k a=>UAF z0 k a):=fun z0 _ a=>by kernel_rfl
 fn_ok (hc OAa hl_nil) Tryz.func73 (fun s s' h=>by cases s;cases s';cases h;rfl) (fun _=>rfl) (fun _ _=>rfl) (b Ai) (e Ai) gas
noncomputable def QAa {γ:Type} (F:TAF):Hd ctx γ:=hdl cv134.dec (fun a=>F a) cv135.enc
abbrev RAD:=SLife→Option SLife
noncomputable def VAF (z0:JAF) (z1:LAF) (z2:NAF) (z3:QAF) (z4:TAF) (a_0:SLife):Option SLife:=
 (z0 a_0.fBox).bind fun r0=>
 (z1 a_0.fCodes).bind fun r1=>
 (z2 a_0.fReplies).bind fun r2=>
 (z3 a_0.fGives).bind fun r3=>
 (z4 a_0.fDone).bind fun r4=>
 some ⟨r0,r1,r2,r3,r4⟩
noncomputable def Vp:RAD:=VAF Ar Ir Kr Nr Sr
theorem GAY:Tells ctx PP 19 cv136 cv137 (fun a=>Vp a):=fn_ok0 (hc FAa (hc HAa (hc JAa (hc MAa (hc PAa hl_nil))))) Tryz.func19 ((fun z0 z1 z2 z3 z4 a=>by kernel_rfl:∀ z0 z1 z2 z3 z4,EntryIs0 ctx PP 19 [] [(15,GAa z0),(70,IAa z1),(71,KAa z2),(72,NAa z3),(73,QAa z4)] cv136 cv137 fun a=>VAF z0 z1 z2 z3 z4 a) Ar Ir Kr Nr Sr)
noncomputable def KAY {γ:Type} (F:RAD):Hd ctx γ:=hdl cv136.dec (fun a=>F a) cv137.enc
abbrev WAF:=Option (List Int)
noncomputable def FAP  : Option (List Int):=
 some [1779033703,3144134277,1013904242,2773480762,1359893119,2600822924,528734635,1541459225]
noncomputable def O6:WAF:=FAP
theorem RAa:Tells ctx PP 146 cv0 cv1 (fun _=>O6):=fn_ok0 hl_nil Tryz.func146 (fun _=>by kernel_rfl:EntryIs0 ctx PP 146 [] [] cv0 cv1 fun _=>FAP)
noncomputable def SAa {γ:Type} (F:WAF):Hd ctx γ:=hdl cv0.dec (fun _=>F) cv1.enc
abbrev Di:=(List Int)→Option ByteArray
inductive Ur where
 | c0 (words_0:(List Int)) (i_4:Int) (out_3:(List Int))
noncomputable def HAP:Ur→LI
 | .c0 words_0 i_4 out_3=>(tdo Tryz.f145 464,[(0,[.one (.rsl 138 words_0)]),(3,[.one (.own 240)]),(4,[.one (.int .i64 i_4)])],[(240,.sl 5 out_3)])
noncomputable def IAP (k:Ur→Option ByteArray) (words_0:(List Int)):Option ByteArray:=
 k (.c0 words_0 0 [])
noncomputable def P6 (k:Ur→Option ByteArray):Ur→Option ByteArray
 | .c0 words_0 i_4 out_3=>
 bif (decide (i_4<(words_0.length:Int))) then
  bif ((decide (0≤i_4)) && (decide (i_4<(words_0.length:Int)))) then
  bif (decide (((out_3.length+4)*1)≤140737488355328)) then
  k (.c0 words_0 (w64 (i_4+1)) (out_3++[(w8 (w32 ((words_0.getD i_4.toNat 0).tdiv 16777216))),(w8 ((w32 ((words_0.getD i_4.toNat 0).tdiv 65536)).tmod 256)),(w8 ((w32 ((words_0.getD i_4.toNat 0).tdiv 256)).tmod 256)),(w8 ((words_0.getD i_4.toNat 0).tmod 256))]))
  else none
  else none
 else
  some (ofBytes out_3)
noncomputable def Vr:Nat→Ur→Option ByteArray
 | 0,_=>none
 | m+1,s=>P6 (Vr m) s
noncomputable def Fb:Di:=IAP (Vr gas)
theorem XAF:Tells ctx PP 145 cv2 cv3 (fun a=>Fb a):=
 have b:CutIs ctx PP 145 Tryz.f145 [] [] cv3 HAP (P6):=fun _ s=>by cases s <;> kernel_rfl
 have e:EntryIs ctx PP 145 [] [] cv2 cv3 HAP (fun k a=>IAP k a):=fun _ a=>by kernel_rfl
 fn_ok hl_nil Tryz.func145 (fun s s' h=>by cases s;cases s';cases h;rfl) (fun _=>rfl) (fun _ _=>rfl) b e gas
noncomputable def Xr {γ:Type} (F:Di):Hd ctx γ:=hdl cv2.dec (fun a=>F a) cv3.enc
abbrev YAF:=Option SHasher
noncomputable def ZAF (z0:WAF) (z1:Di)  : Option SHasher:=
 z0.bind fun r0=>
 (z1 r0).bind fun r1=>
 some ⟨r1,⟨#[]⟩,0⟩
noncomputable def Yr:YAF:=ZAF O6 Fb
theorem TAa:Tells ctx PP 91 cv0 cv4 (fun _=>Yr):=fn_ok0 (hc RAa (hc XAF hl_nil)) Tryz.func91 ((fun z0 z1 _=>by kernel_rfl:∀ z0 z1,EntryIs0 ctx PP 91 [] [(146,SAa z0),(145,Xr z1)] cv0 cv4 fun _=>ZAF z0 z1) O6 Fb)
noncomputable def UAa {γ:Type} (F:YAF):Hd ctx γ:=hdl cv0.dec (fun _=>F) cv4.enc
abbrev PZ:=Int→Int→Int→Option Bool
noncomputable def JAP (x_0:Int) (least_1:Int) (most_2:Int):Option Bool:=
 bif (decide (x_0≥least_1)) then
 some (decide (x_0≤most_2))
 else
 some false
noncomputable def AY:PZ:=JAP
theorem Ie:Tells ctx PP 50 cv5 cv6 (fun a=>AY a.1 a.2.1 a.2.2):=fn_ok0 hl_nil Tryz.func50 (fun a=>by kernel_rfl:EntryIs0 ctx PP 50 [] [] cv5 cv6 fun a=>JAP a.1 a.2.1 a.2.2)
noncomputable def Na {γ:Type} (F:PZ):Hd ctx γ:=hdl cv5.dec (fun a=>F a.1 a.2.1 a.2.2) cv6.enc
abbrev Rl:=SHasher→Option Bool
noncomputable def AAG (z0:PZ) (h_0:SHasher):Option Bool:=
 bif ((h_0.fState.size:Int) == 32) then
 bif (decide ((h_0.fRest.size:Int)<64)) then
  (z0 h_0.fCount 0 1000000000).bind fun r0=>
  bif r0 then
  some ((h_0.fCount.tmod 64) == (h_0.fRest.size:Int))
  else
  some false
 else
  some false
 else
 some false
noncomputable def Oa:Rl:=AAG AY
theorem KAP:Tells ctx PP 141 cv4 cv6 (fun a=>Oa a):=fn_ok0 (hc Ie hl_nil) Tryz.func141 ((fun z0 a=>by kernel_rfl:∀ z0,EntryIs0 ctx PP 141 [] [(50,Na z0)] cv4 cv6 fun a=>AAG z0 a) AY)
noncomputable def U6 {γ:Type} (F:Rl):Hd ctx γ:=hdl cv4.dec (fun a=>F a) cv6.enc
abbrev V6:=ByteArray→Int→Option Int
noncomputable def BAG (s_0:ByteArray) (at_1:Int):Option Int:=
 bif ((decide (0≤at_1)) && (decide (at_1<(s_0.size:Int)))) then
 bif ((decide (0≤(w64 (at_1+1)))) && (decide ((w64 (at_1+1))<(s_0.size:Int)))) then
 bif ((decide (0≤(w64 (at_1+2)))) && (decide ((w64 (at_1+2))<(s_0.size:Int)))) then
 bif ((decide (0≤(w64 (at_1+3)))) && (decide ((w64 (at_1+3))<(s_0.size:Int)))) then
 some (w32 ((w32 ((w32 ((w32 ((w32 (bt s_0 at_1))*16777216))+(w32 ((w32 (bt s_0 (w64 (at_1+1))))*65536))))+(w32 ((w32 (bt s_0 (w64 (at_1+2))))*256))))+(w32 (bt s_0 (w64 (at_1+3))))))
 else none
 else none
 else none
 else none
noncomputable def Ei:V6:=BAG
theorem VAa:Tells ctx PP 176 cv7 cv8 (fun a=>Ei a.1 a.2):=fn_ok0 hl_nil Tryz.func176 (fun a=>by kernel_rfl:EntryIs0 ctx PP 176 [] [] cv7 cv8 fun a=>BAG a.1 a.2)
noncomputable def LAP {γ:Type} (F:V6):Hd ctx γ:=hdl cv7.dec (fun a=>F a.1 a.2) cv8.enc
abbrev Zf:=ByteArray→Option (List Int)
inductive Zr where
 | c0 (s_0:ByteArray) (i_4:Int) (out_3:(List Int))
noncomputable def NAP:Zr→LI
 | .c0 s_0 i_4 out_3=>(tdo Tryz.f142 464,[(0,[.one (.str s_0)]),(3,[.one (.own 240)]),(4,[.one (.int .i64 i_4)])],[(240,.sl 138 out_3)])
noncomputable def OAP (z0:V6) (k:Zr→Option (List Int)) (s_0:ByteArray):Option (List Int):=
 k (.c0 s_0 0 [])
noncomputable def X6 (z0:V6) (k:Zr→Option (List Int)):Zr→Option (List Int)
 | .c0 s_0 i_4 out_3=>
 bif (decide ((w64 (i_4+4))≤(s_0.size:Int))) then
  (z0 s_0 i_4).bind fun r0=>
  bif (decide (((out_3.length+1)*4)≤140737488355328)) then
  k (.c0 s_0 (w64 (i_4+4)) (out_3++[r0]))
  else none
 else
  some out_3
noncomputable def Es:Nat→Zr→Option (List Int)
 | 0,_=>none
 | m+1,s=>X6 Ei (Es m) s
noncomputable def QZ:Zf:=OAP Ei (Es gas)
theorem CAG:Tells ctx PP 142 cv3 cv1 (fun a=>QZ a):=
 have b:∀ z0,CutIs ctx PP 142 Tryz.f142 [] [(176,LAP z0)] cv1 NAP (X6 z0):=fun z0 _ s=>by cases s <;> kernel_rfl
 have e:∀ z0,EntryIs ctx PP 142 [] [(176,LAP z0)] cv3 cv1 NAP (fun k a=>OAP z0 k a):=fun z0 _ a=>by kernel_rfl
 fn_ok (hc VAa hl_nil) Tryz.func142 (fun s s' h=>by cases s;cases s';cases h;rfl) (fun _=>rfl) (fun _ _=>rfl) (b Ei) (e Ei) gas
noncomputable def Sl {γ:Type} (F:Zf):Hd ctx γ:=hdl cv3.dec (fun a=>F a) cv1.enc
abbrev Ul:=Option (List Int)
noncomputable def PAP  : Option (List Int):=
 some [1116352408,1899447441,3049323471,3921009573,961987163,1508970993,2453635748,2870763221,3624381080,310598401,607225278,1426881987,1925078388,2162078206,2614888103,3248222580,3835390401,4022224774,264347078,604807628,770255983,1249150122,1555081692,1996064986,2554220882,2821834349,2952996808,3210313671,3336571891,3584528711,113926993,338241895,666307205,773529912,1294757372,1396182291,1695183700,1986661051,2177026350,2456956037,2730485921,2820302411,3259730800,3345764771,3516065817,3600352804,4094571909,275423344,430227734,506948616,659060556,883997877,958139571,1322822218,1537002063,1747873779,1955562222,2024104815,2227730452,2361852424,2428436474,2756734187,3204031479,3329325298]
noncomputable def Ed:Ul:=PAP
theorem QAP:Tells ctx PP 143 cv0 cv1 (fun _=>Ed):=fn_ok0 hl_nil Tryz.func143 (fun _=>by kernel_rfl:EntryIs0 ctx PP 143 [] [] cv0 cv1 fun _=>PAP)
noncomputable def Y6 {γ:Type} (F:Ul):Hd ctx γ:=hdl cv0.dec (fun _=>F) cv1.enc
abbrev EAG:=Int→Int→Int→Option Int
noncomputable def FAG (x_0:Int) (low_1:Int) (high_2:Int):Option Int:=
 bif (!(low_1 == 0)) then
 bif (!(low_1 == 0)) then
 some (w32 ((w32 (x_0.tdiv low_1))+(w32 ((x_0.tmod low_1)*high_2))))
 else none
 else none
noncomputable def Gs:EAG:=FAG
theorem WAa:Tells ctx PP 204 cv9 cv8 (fun a=>Gs a.1 a.2.1 a.2.2):=fn_ok0 hl_nil Tryz.func204 (fun a=>by kernel_rfl:EntryIs0 ctx PP 204 [] [] cv9 cv8 fun a=>FAG a.1 a.2.1 a.2.2)
noncomputable def XAa {γ:Type} (F:EAG):Hd ctx γ:=hdl cv9.dec (fun a=>F a.1 a.2.1 a.2.2) cv8.enc
abbrev D7:=Int→Int→Int→Int→Bool→Option Int
noncomputable def Vl (z0:EAG) (x_0:Int) (a_1:Int) (b_2:Int) (c_3:Int) (last_4:Bool):Option Int:=
 bif (!(a_1 == 0)) then
 (z0 x_0 a_1 (w32 ((w32 ((2147483648:Int).tdiv a_1))*2))).bind fun r0=>
 bif (!(b_2 == 0)) then
 (z0 x_0 b_2 (w32 ((w32 ((2147483648:Int).tdiv b_2))*2))).bind fun r1=>
 bif (!(c_3 == 0)) then
 bif (!last_4) then
 bif (!(c_3 == 0)) then
 (z0 x_0 c_3 (w32 ((w32 ((2147483648:Int).tdiv c_3))*2))).bind fun r2=>
 some (w32 (((BitVec.toNat ((BitVec.ofInt (IntKind.bits IntKind.u32) (w32 (((BitVec.toNat ((BitVec.ofInt (IntKind.bits IntKind.u32) r0) ^^^ (BitVec.ofInt (IntKind.bits IntKind.u32) r1))):Nat):Int))) ^^^ (BitVec.ofInt (IntKind.bits IntKind.u32) r2))):Nat):Int))
 else none
 else
 some (w32 (((BitVec.toNat ((BitVec.ofInt (IntKind.bits IntKind.u32) (w32 (((BitVec.toNat ((BitVec.ofInt (IntKind.bits IntKind.u32) r0) ^^^ (BitVec.ofInt (IntKind.bits IntKind.u32) r1))):Nat):Int))) ^^^ (BitVec.ofInt (IntKind.bits IntKind.u32) (w32 (x_0.tdiv c_3))))):Nat):Int))
 else none
 else none
 else none
noncomputable def Qa:D7:=Vl Gs
theorem YAa:Tells ctx PP 177 cv10 cv8 (fun a=>Qa a.1 a.2.1 a.2.2.1 a.2.2.2.1 a.2.2.2.2):=fn_ok0 (hc WAa hl_nil) Tryz.func177 ((fun z0 a=>by kernel_rfl:∀ z0,EntryIs0 ctx PP 177 [] [(204,XAa z0)] cv10 cv8 fun a=>Vl z0 a.1 a.2.1 a.2.2.1 a.2.2.2.1 a.2.2.2.2) Gs)
noncomputable def RAP {γ:Type} (F:D7):Hd ctx γ:=hdl cv10.dec (fun a=>F a.1 a.2.1 a.2.2.1 a.2.2.2.1 a.2.2.2.2) cv8.enc
abbrev Wl:=(List Int)→(List Int)→ByteArray→Option (List Int)
inductive Js where
 | c0 (t_0:(List Int)) (o_1:(List Int)) (v_8:Int) (v_7:(List Int))
 | c1 (t_0:(List Int)) (o_1:(List Int)) (v_10:Int) (v_7:(List Int)) (v_9:(List Int))
 | c2 (t_0:(List Int)) (o_1:(List Int)) (v_10:Int) (v_13:Int) (v_15:Int) (v_16:Int) (v_7:(List Int)) (v_9:(List Int))
 | c3 (t_0:(List Int)) (v_18:Int) (v_9:(List Int)) (v_17:(List Int))
noncomputable def SAP:Js→LI
 | .c0 t_0 o_1 v_8 v_7=>(tdo Tryz.f144 464,[(0,[.one (.rsl 138 t_0)]),(1,[.one (.rsl 138 o_1)]),(7,[.one (.own 496)]),(8,[.one (.int .i64 v_8)])],[(496,.sl 138 v_7)])
 | .c1 t_0 o_1 v_10 v_7 v_9=>(tdo Tryz.f144 2000,[(0,[.one (.rsl 138 t_0)]),(1,[.one (.rsl 138 o_1)]),(7,[.one (.own 496)]),(9,[.one (.own 624)]),(10,[.one (.int .i64 v_10)])],[(496,.sl 138 v_7),(624,.sl 138 v_9)])
 | .c2 t_0 o_1 v_10 v_13 v_15 v_16 v_7 v_9=>(tdo Tryz.f144 8202192,[(0,[.one (.rsl 138 t_0)]),(1,[.one (.rsl 138 o_1)]),(7,[.one (.own 496)]),(9,[.one (.own 624)]),(10,[.one (.int .i64 v_10)]),(13,[.one (.int .u32 v_13)]),(15,[.one (.int .u32 v_15)]),(16,[.one (.int .i64 v_16)])],[(496,.sl 138 v_7),(624,.sl 138 v_9)])
 | .c3 t_0 v_18 v_9 v_17=>(tdo Tryz.f144 8144,[(0,[.one (.rsl 138 t_0)]),(9,[.one (.own 624)]),(17,[.one (.own 1136)]),(18,[.one (.int .i64 v_18)])],[(624,.sl 138 v_9),(1136,.sl 138 v_17)])
noncomputable def GAG (z0:Zf) (z1:D7) (k:Js→Option (List Int)) (t_0:(List Int)) (o_1:(List Int)) (A_2:ByteArray):Option (List Int):=
 (z0 A_2).bind fun r0=>
 k (.c0 t_0 o_1 16 r0)
noncomputable def Jd (z0:Zf) (z1:D7) (k:Js→Option (List Int)):Js→Option (List Int)
 | .c0 t_0 o_1 v_8 v_7=>
 bif (decide (v_8<64)) then
  bif ((decide (0≤(w64 (v_8 - 2)))) && (decide ((w64 (v_8 - 2))<(v_7.length:Int)))) then
  (z1 (v_7.getD (w64 (v_8 - 2)).toNat 0) 131072 524288 1024 true).bind fun r0=>
  bif ((decide (0≤(w64 (v_8 - 7)))) && (decide ((w64 (v_8 - 7))<(v_7.length:Int)))) then
  bif ((decide (0≤(w64 (v_8 - 15)))) && (decide ((w64 (v_8 - 15))<(v_7.length:Int)))) then
  (z1 (v_7.getD (w64 (v_8 - 15)).toNat 0) 128 262144 8 true).bind fun r1=>
  bif ((decide (0≤(w64 (v_8 - 16)))) && (decide ((w64 (v_8 - 16))<(v_7.length:Int)))) then
  bif (decide (((v_7.length+1)*4)≤140737488355328)) then
  k (.c0 t_0 o_1 (w64 (v_8+1)) (v_7++[(w32 ((w32 ((w32 (r0+(v_7.getD (w64 (v_8 - 7)).toNat 0)))+r1))+(v_7.getD (w64 (v_8 - 16)).toNat 0)))]))
  else none
  else none
  else none
  else none
  else none
 else
  bif (decide (((0+t_0.length)*4)≤140737488355328)) then
  k (.c1 t_0 o_1 0 v_7 ([]++t_0))
  else none
 | .c1 t_0 o_1 v_10 v_7 v_9=>
 bif (decide (v_10<64)) then
  bif ((decide ((0:Int)≤(4:Int))) && (decide (4<(v_9.length:Int)))) then
  bif ((decide ((0:Int)≤(5:Int))) && (decide (5<(v_9.length:Int)))) then
  bif ((decide ((0:Int)≤(6:Int))) && (decide (6<(v_9.length:Int)))) then
  bif ((decide ((0:Int)≤(7:Int))) && (decide (7<(v_9.length:Int)))) then
  (z1 (v_9.getD (4:Int).toNat 0) 64 2048 33554432 false).bind fun r0=>
  bif ((decide (0≤v_10)) && (decide (v_10<(o_1.length:Int)))) then
  bif ((decide (0≤v_10)) && (decide (v_10<(v_7.length:Int)))) then
  bif ((decide ((0:Int)≤(0:Int))) && (decide (0<(v_9.length:Int)))) then
  bif ((decide ((0:Int)≤(1:Int))) && (decide (1<(v_9.length:Int)))) then
  bif ((decide ((0:Int)≤(0:Int))) && (decide (0<(v_9.length:Int)))) then
  bif ((decide ((0:Int)≤(2:Int))) && (decide (2<(v_9.length:Int)))) then
  bif ((decide ((0:Int)≤(1:Int))) && (decide (1<(v_9.length:Int)))) then
  bif ((decide ((0:Int)≤(2:Int))) && (decide (2<(v_9.length:Int)))) then
  bif ((decide ((0:Int)≤(0:Int))) && (decide (0<(v_9.length:Int)))) then
  (z1 (v_9.getD (0:Int).toNat 0) 4 8192 4194304 false).bind fun r1=>
  k (.c2 t_0 o_1 v_10 (w32 ((w32 ((w32 ((w32 ((v_9.getD (7:Int).toNat 0)+r0))+(w32 (((BitVec.toNat ((BitVec.ofInt (IntKind.bits IntKind.u32) (w32 (((BitVec.toNat ((BitVec.ofInt (IntKind.bits IntKind.u32) (v_9.getD (4:Int).toNat 0)) &&& (BitVec.ofInt (IntKind.bits IntKind.u32) (v_9.getD (5:Int).toNat 0)))):Nat):Int))) ^^^ (BitVec.ofInt (IntKind.bits IntKind.u32) (w32 (((BitVec.toNat ((BitVec.ofInt (IntKind.bits IntKind.u32) (w32 (4294967295 - (v_9.getD (4:Int).toNat 0)))) &&& (BitVec.ofInt (IntKind.bits IntKind.u32) (v_9.getD (6:Int).toNat 0)))):Nat):Int))))):Nat):Int))))+(o_1.getD v_10.toNat 0)))+(v_7.getD v_10.toNat 0))) (w32 (r1+(w32 (((BitVec.toNat ((BitVec.ofInt (IntKind.bits IntKind.u32) (w32 (((BitVec.toNat ((BitVec.ofInt (IntKind.bits IntKind.u32) (w32 (((BitVec.toNat ((BitVec.ofInt (IntKind.bits IntKind.u32) (v_9.getD (0:Int).toNat 0)) &&& (BitVec.ofInt (IntKind.bits IntKind.u32) (v_9.getD (1:Int).toNat 0)))):Nat):Int))) ^^^ (BitVec.ofInt (IntKind.bits IntKind.u32) (w32 (((BitVec.toNat ((BitVec.ofInt (IntKind.bits IntKind.u32) (v_9.getD (0:Int).toNat 0)) &&& (BitVec.ofInt (IntKind.bits IntKind.u32) (v_9.getD (2:Int).toNat 0)))):Nat):Int))))):Nat):Int))) ^^^ (BitVec.ofInt (IntKind.bits IntKind.u32) (w32 (((BitVec.toNat ((BitVec.ofInt (IntKind.bits IntKind.u32) (v_9.getD (1:Int).toNat 0)) &&& (BitVec.ofInt (IntKind.bits IntKind.u32) (v_9.getD (2:Int).toNat 0)))):Nat):Int))))):Nat):Int)))) 7 v_7 v_9)
  else none
  else none
  else none
  else none
  else none
  else none
  else none
  else none
  else none
  else none
  else none
  else none
  else none
 else
  k (.c3 t_0 0 v_9 [])
 | .c2 t_0 o_1 v_10 v_13 v_15 v_16 v_7 v_9=>
 bif (decide (v_16 > 0)) then
  bif ((decide (0≤(w64 (v_16 - 1)))) && (decide ((w64 (v_16 - 1))<(v_9.length:Int)))) then
  bif ((decide (0≤v_16)) && (decide (v_16<(v_9.length:Int)))) then
  k (.c2 t_0 o_1 v_10 v_13 v_15 (w64 (v_16 - 1)) v_7 (v_9.set v_16.toNat (v_9.getD (w64 (v_16 - 1)).toNat 0)))
  else none
  else none
 else
  bif ((decide ((0:Int)≤(4:Int))) && (decide (4<(v_9.length:Int)))) then
  bif ((decide ((0:Int)≤(4:Int))) && (decide (4<(v_9.length:Int)))) then
  bif ((decide ((0:Int)≤(0:Int))) && (decide (0<((v_9.set (4:Int).toNat (w32 ((v_9.getD (4:Int).toNat 0)+v_13))).length:Int)))) then
  k (.c1 t_0 o_1 (w64 (v_10+1)) v_7 ((v_9.set (4:Int).toNat (w32 ((v_9.getD (4:Int).toNat 0)+v_13))).set (0:Int).toNat (w32 (v_13+v_15))))
  else none
  else none
  else none
 | .c3 t_0 v_18 v_9 v_17=>
 bif (decide (v_18<8)) then
  bif ((decide (0≤v_18)) && (decide (v_18<(t_0.length:Int)))) then
  bif ((decide (0≤v_18)) && (decide (v_18<(v_9.length:Int)))) then
  bif (decide (((v_17.length+1)*4)≤140737488355328)) then
  k (.c3 t_0 (w64 (v_18+1)) v_9 (v_17++[(w32 ((t_0.getD v_18.toNat 0)+(v_9.getD v_18.toNat 0)))]))
  else none
  else none
  else none
 else
  some v_17
noncomputable def CZ:Nat→Js→Option (List Int)
 | 0,_=>none
 | m+1,s=>Jd QZ Qa (CZ m) s
noncomputable def Ub:Wl:=GAG QZ Qa (CZ gas)
theorem TAP:Tells ctx PP 144 cv11 cv1 (fun a=>Ub a.1 a.2.1 a.2.2):=
 have b:∀ z0 z1,CutIs ctx PP 144 Tryz.f144 [] [(142,Sl z0),(177,RAP z1)] cv1 SAP (Jd z0 z1):=fun z0 z1 _ s=>by cases s <;> kernel_rfl
 have e:∀ z0 z1,EntryIs ctx PP 144 [] [(142,Sl z0),(177,RAP z1)] cv11 cv1 SAP (fun k a=>GAG z0 z1 k a.1 a.2.1 a.2.2):=fun z0 z1 _ a=>by kernel_rfl
 fn_ok (hc CAG (hc YAa hl_nil)) Tryz.func144 (fun s s' h=>by cases s <;> cases s' <;> first | (cases h;done) | (cases h;rfl) | exact (rg_ne h (by kernel_rfl)).elim) (fun _=>rfl) (fun _ _=>rfl) (b QZ Qa) (e QZ Qa) gas
noncomputable def F7 {γ:Type} (F:Wl):Hd ctx γ:=hdl cv11.dec (fun a=>F a.1 a.2.1 a.2.2) cv1.enc
abbrev HAG:=SHasher→ByteArray→Option SHasher
inductive Ls where
 | c0 (s_1:ByteArray) (buf_7:ByteArray) (at_8:Int) (h_2:SHasher) (v_4:SHasher) (state_5:(List Int)) (k_6:(List Int))
noncomputable def UAP:Ls→LI
 | .c0 s_1 buf_7 at_8 h_2 v_4 state_5 k_6=>(tdo Tryz.f90 4064,[(1,[.one (.str s_1)]),(2,[.one (.ptr 128 0)]),(4,[.one (.ptr 256 0)]),(5,[.one (.own 368)]),(6,[.one (.own 432)]),(7,[.one (.str buf_7)]),(8,[.one (.int .i64 at_8)])],[(128,.var [.str h_2.fState,.str h_2.fRest,.int .i64 h_2.fCount]),(256,.var [.str v_4.fState,.str v_4.fRest,.int .i64 v_4.fCount]),(368,.sl 138 state_5),(432,.sl 138 k_6)])
noncomputable def IAG (z0:Rl) (z1:Zf) (z2:Ul) (z3:Wl) (z4:Di) (k:Ls→Option SHasher) (h_0:SHasher) (s_1:ByteArray):Option SHasher:=
 (z0 h_0).bind fun r0=>
 bif (!r0) then
 some h_0
 else
 bif (decide ((w64 (h_0.fCount+(s_1.size:Int))) > 1000000000)) then
  some h_0
 else
  (z1 h_0.fState).bind fun r1=>
  z2.bind fun r2=>
  bif (decide ((h_0.fRest.size+s_1.size)≤9223372036854775807)) then
  k (.c0 s_1 (h_0.fRest++s_1) 0 h_0 ⟨⟨#[]⟩,⟨#[]⟩,0⟩ r1 r2)
  else none
noncomputable def G7 (z0:Rl) (z1:Zf) (z2:Ul) (z3:Wl) (z4:Di) (k:Ls→Option SHasher):Ls→Option SHasher
 | .c0 s_1 buf_7 at_8 h_2 v_4 state_5 k_6=>
 bif (decide ((w64 (at_8+64))≤(buf_7.size:Int))) then
  bif (((decide (0≤at_8)) && (decide (at_8≤(w64 (at_8+64))))) && (decide ((w64 (at_8+64))≤(buf_7.size:Int)))) then
  (z3 state_5 k_6 (buf_7.extract at_8.toNat (w64 (at_8+64)).toNat)).bind fun r0=>
  k (.c0 s_1 buf_7 (w64 (at_8+64)) h_2 v_4 r0 k_6)
  else none
 else
  (z4 state_5).bind fun r1=>
  bif ((decide (0≤at_8)) && (decide (at_8≤(buf_7.size:Int)))) then
  some ⟨r1,(buf_7.extract at_8.toNat buf_7.size),(w64 (h_2.fCount+(s_1.size:Int)))⟩
  else none
noncomputable def Ns:Nat→Ls→Option SHasher
 | 0,_=>none
 | m+1,s=>G7 Oa QZ Ed Ub Fb (Ns m) s
noncomputable def Qs:HAG:=IAG Oa QZ Ed Ub Fb (Ns gas)
theorem ZAa:Tells ctx PP 90 cv12 cv4 (fun a=>Qs a.1 a.2):=
 have b:∀ z0 z1 z2 z3 z4,CutIs ctx PP 90 Tryz.f90 [] [(141,U6 z0),(142,Sl z1),(143,Y6 z2),(144,F7 z3),(145,Xr z4)] cv4 UAP (G7 z0 z1 z2 z3 z4):=fun z0 z1 z2 z3 z4 _ s=>by cases s <;> kernel_rfl
 have e:∀ z0 z1 z2 z3 z4,EntryIs ctx PP 90 [] [(141,U6 z0),(142,Sl z1),(143,Y6 z2),(144,F7 z3),(145,Xr z4)] cv12 cv4 UAP (fun k a=>IAG z0 z1 z2 z3 z4 k a.1 a.2):=fun z0 z1 z2 z3 z4 _ a=>by kernel_rfl
 fn_ok (hc KAP (hc CAG (hc QAP (hc TAP (hc XAF hl_nil))))) Tryz.func90 (fun s s' h=>by cases s;cases s';(repeat cases ‹SHasher›);cases h;rfl) (fun _=>rfl) (fun _ _=>rfl) (b Oa QZ Ed Ub Fb) (e Oa QZ Ed Ub Fb) gas
noncomputable def AAb {γ:Type} (F:HAG):Hd ctx γ:=hdl cv12.dec (fun a=>F a.1 a.2) cv4.enc
abbrev JAG:=SHasher→Option ByteArray
inductive Us where
 | c0 (h_1:SHasher) (tail_3:(List Int))
 | c1 (bits_4:Int) (i_5:Int) (h_1:SHasher) (tail_3:(List Int))
 | c2 (bits_4:Int) (i_5:Int) (x_6:Int) (k_7:Int) (h_1:SHasher) (tail_3:(List Int))
 | c3 (at_10:Int) (tail_3:(List Int)) (state_8:(List Int)) (k_9:(List Int))
noncomputable def VAP:Us→LI
 | .c0 h_1 tail_3=>(tdo Tryz.f89 992,[(1,[.one (.ptr 64 0)]),(3,[.one (.own 240)])],[(64,.var [.str h_1.fState,.str h_1.fRest,.int .i64 h_1.fCount]),(240,.sl 5 tail_3)])
 | .c1 bits_4 i_5 h_1 tail_3=>(tdo Tryz.f89 8144,[(1,[.one (.ptr 64 0)]),(3,[.one (.own 240)]),(4,[.one (.int .i64 bits_4)]),(5,[.one (.int .i64 i_5)])],[(64,.var [.str h_1.fState,.str h_1.fRest,.int .i64 h_1.fCount]),(240,.sl 5 tail_3)])
 | .c2 bits_4 i_5 x_6 k_7 h_1 tail_3=>(tdo Tryz.f89 2085456,[(1,[.one (.ptr 64 0)]),(3,[.one (.own 240)]),(4,[.one (.int .i64 bits_4)]),(5,[.one (.int .i64 i_5)]),(6,[.one (.int .i64 x_6)]),(7,[.one (.int .i64 k_7)])],[(64,.var [.str h_1.fState,.str h_1.fRest,.int .i64 h_1.fCount]),(240,.sl 5 tail_3)])
 | .c3 at_10 tail_3 state_8 k_9=>(tdo Tryz.f89 65488,[(3,[.one (.own 240)]),(8,[.one (.own 560)]),(9,[.one (.own 624)]),(10,[.one (.int .i64 at_10)])],[(240,.sl 5 tail_3),(560,.sl 138 state_8),(624,.sl 138 k_9)])
noncomputable def KAG (z0:Rl) (z1:Zf) (z2:Ul) (z3:Wl) (z4:Di) (k:Us→Option ByteArray) (h_0:SHasher):Option ByteArray:=
 (z0 h_0).bind fun r0=>
 bif (!r0) then
 some ⟨#[]⟩
 else
 bif (decide (h_0.fRest.size≤9223372036854775807)) then
 bif (decide ((((bytesOf h_0.fRest).length+1)*1)≤140737488355328)) then
 k (.c0 h_0 ((bytesOf h_0.fRest)++[(128:Int)]))
 else none
 else none
noncomputable def Ld (z0:Rl) (z1:Zf) (z2:Ul) (z3:Wl) (z4:Di) (k:Us→Option ByteArray):Us→Option ByteArray
 | .c0 h_1 tail_3=>
 bif (((tail_3.length:Int).tmod 64) != 56) then
  bif (decide (((tail_3.length+1)*1)≤140737488355328)) then
  k (.c0 h_1 (tail_3++[(0:Int)]))
  else none
 else
  k (.c1 (w64 (8*h_1.fCount)) 7 h_1 tail_3)
 | .c1 bits_4 i_5 h_1 tail_3=>
 bif (decide (i_5≥0)) then
  k (.c2 bits_4 i_5 bits_4 0 h_1 tail_3)
 else
  (z1 h_1.fState).bind fun r0=>
  z2.bind fun r1=>
  k (.c3 0 tail_3 r0 r1)
 | .c2 bits_4 i_5 x_6 k_7 h_1 tail_3=>
 bif (decide (k_7<i_5)) then
  k (.c2 bits_4 i_5 (w64 (x_6.tdiv 256)) (w64 (k_7+1)) h_1 tail_3)
 else
  bif (decide (((tail_3.length+1)*1)≤140737488355328)) then
  k (.c1 bits_4 (w64 (i_5 - 1)) h_1 (tail_3++[(w8 (x_6.tmod 256))]))
  else none
 | .c3 at_10 tail_3 state_8 k_9=>
 bif (decide (at_10<(tail_3.length:Int))) then
  bif (((decide (0≤at_10)) && (decide (at_10≤(w64 (at_10+64))))) && (decide ((w64 (at_10+64))≤(tail_3.length:Int)))) then
  (z3 state_8 k_9 (ofBytes ((tail_3.drop at_10.toNat).take ((w64 (at_10+64)).toNat - at_10.toNat)))).bind fun r0=>
  k (.c3 (w64 (at_10+64)) tail_3 r0 k_9)
  else none
 else
  (z4 state_8).bind fun r1=>
  some r1
noncomputable def DZ:Nat→Us→Option ByteArray
 | 0,_=>none
 | m+1,s=>Ld Oa QZ Ed Ub Fb (DZ m) s
noncomputable def Vs:JAG:=KAG Oa QZ Ed Ub Fb (DZ gas)
theorem BAb:Tells ctx PP 89 cv4 cv3 (fun a=>Vs a):=
 have b:∀ z0 z1 z2 z3 z4,CutIs ctx PP 89 Tryz.f89 [] [(141,U6 z0),(142,Sl z1),(143,Y6 z2),(144,F7 z3),(145,Xr z4)] cv3 VAP (Ld z0 z1 z2 z3 z4):=fun z0 z1 z2 z3 z4 _ s=>by cases s <;> kernel_rfl
 have e:∀ z0 z1 z2 z3 z4,EntryIs ctx PP 89 [] [(141,U6 z0),(142,Sl z1),(143,Y6 z2),(144,F7 z3),(145,Xr z4)] cv4 cv3 VAP (fun k a=>KAG z0 z1 z2 z3 z4 k a):=fun z0 z1 z2 z3 z4 _ a=>by kernel_rfl
 fn_ok (hc KAP (hc CAG (hc QAP (hc TAP (hc XAF hl_nil))))) Tryz.func89 (fun s s' h=>by cases s <;> cases s' <;> first | ((repeat cases ‹SHasher›);cases h;done) | ((repeat cases ‹SHasher›);cases h;rfl) | exact (rg_ne h (by kernel_rfl)).elim) (fun _=>rfl) (fun _ _=>rfl) (b Oa QZ Ed Ub Fb) (e Oa QZ Ed Ub Fb) gas
noncomputable def CAb {γ:Type} (F:JAG):Hd ctx γ:=hdl cv4.dec (fun a=>F a) cv3.enc
abbrev Ag:=ByteArray→Option ByteArray
noncomputable def LAG (z0:YAF) (z1:HAG) (z2:JAG) (s_0:ByteArray):Option ByteArray:=
 z0.bind fun r0=>
 (z1 r0 s_0).bind fun r1=>
 (z2 r1).bind fun r2=>
 some r2
noncomputable def RZ:Ag:=LAG Yr Qs Vs
theorem H7:Tells ctx PP 26 cv3 cv3 (fun a=>RZ a):=fn_ok0 (hc TAa (hc ZAa (hc BAb hl_nil))) Tryz.func26 ((fun z0 z1 z2 a=>by kernel_rfl:∀ z0 z1 z2,EntryIs0 ctx PP 26 [] [(91,UAa z0),(90,AAb z1),(89,CAb z2)] cv3 cv3 fun a=>LAG z0 z1 z2 a) Yr Qs Vs)
noncomputable def Xl {γ:Type} (F:Ag):Hd ctx γ:=hdl cv3.dec (fun a=>F a) cv3.enc
abbrev MAG:=Int→Int→Option ByteArray
inductive Ws where
 | c0 (n_0:Int) (x_1:Int) (i_6:Int) (out_5:(List Int))
noncomputable def WAP:Ws→LI
 | .c0 n_0 x_1 i_6 out_5=>(tdo Tryz.f97 464,[(0,[.one (.int .i64 n_0)]),(1,[.one (.int .u8 x_1)]),(5,[.one (.own 368)]),(6,[.one (.int .i64 i_6)])],[(368,.sl 5 out_5)])
noncomputable def NAG (k:Ws→Option ByteArray) (n_0:Int) (x_1:Int):Option ByteArray:=
 bif ((((decide (0≤n_0)) && (decide (n_0≤n_0))) && (decide (n_0≤9223372036854775807))) && (decide ((n_0.toNat*1)≤140737488355328))) then
 k (.c0 n_0 x_1 0 (List.replicate n_0.toNat (0:Int)))
 else none
noncomputable def I7 (k:Ws→Option ByteArray):Ws→Option ByteArray
 | .c0 n_0 x_1 i_6 out_5=>
 bif (decide (i_6<n_0)) then
  bif ((decide (0≤i_6)) && (decide (i_6<(out_5.length:Int)))) then
  k (.c0 n_0 x_1 (w64 (i_6+1)) (out_5.set i_6.toNat x_1))
  else none
 else
  some (ofBytes out_5)
noncomputable def Dt:Nat→Ws→Option ByteArray
 | 0,_=>none
 | m+1,s=>I7 (Dt m) s
noncomputable def Et:MAG:=NAG (Dt gas)
theorem DAb:Tells ctx PP 97 cv13 cv3 (fun a=>Et a.1 a.2):=
 have b:CutIs ctx PP 97 Tryz.f97 [] [] cv3 WAP (I7):=fun _ s=>by cases s <;> kernel_rfl
 have e:EntryIs ctx PP 97 [] [] cv13 cv3 WAP (fun k a=>NAG k a.1 a.2):=fun _ a=>by kernel_rfl
 fn_ok hl_nil Tryz.func97 (fun s s' h=>by cases s;cases s';cases h;rfl) (fun _=>rfl) (fun _ _=>rfl) b e gas
noncomputable def EAb {γ:Type} (F:MAG):Hd ctx γ:=hdl cv13.dec (fun a=>F a.1 a.2) cv3.enc
abbrev J7:=Option SBook
noncomputable def OAG (z0:Ag) (z1:MAG)  : Option SBook:=
 (z0 ⟨#[]⟩).bind fun r0=>
 (z1 32 0).bind fun r1=>
 some ⟨r0,0,[],0,r1,0⟩
noncomputable def Gi:J7:=OAG RZ Et
theorem XAP:Tells ctx PP 28 cv0 cv14 (fun _=>Gi):=fn_ok0 (hc H7 (hc DAb hl_nil)) Tryz.func28 ((fun z0 z1 _=>by kernel_rfl:∀ z0 z1,EntryIs0 ctx PP 28 [] [(26,Xl z0),(97,EAb z1)] cv0 cv14 fun _=>OAG z0 z1) RZ Et)
noncomputable def YAP {γ:Type} (F:J7):Hd ctx γ:=hdl cv0.dec (fun _=>F) cv14.enc
abbrev Yl:=SBook→Option SBook
noncomputable def PAG (b_0:SBook):Option SBook:=
 bif (decide (((0+b_0.fThings.length)*48)≤140737488355328)) then
 some ⟨b_0.fWord,b_0.fTries,([]++b_0.fThings),b_0.fLast,b_0.fChain,b_0.fCount⟩
 else none
noncomputable def Vb:Yl:=PAG
theorem ZAP:Tells ctx PP 93 cv20 cv14 (fun a=>Vb a):=fn_ok0 hl_nil Tryz.func93 (fun a=>by kernel_rfl:EntryIs0 ctx PP 93 [] [] cv20 cv14 fun a=>PAG a)
noncomputable def N7 {γ:Type} (F:Yl):Hd ctx γ:=hdl cv20.dec (fun a=>F a) cv14.enc
abbrev Xb:=Int→Option ByteArray
inductive Gt where
 | c0 (n_0:Int) (out_3:(List Int))
noncomputable def AAQ:Gt→LI
 | .c0 n_0 out_3=>(tdo Tryz.f147 224,[(0,[.one (.int .i64 n_0)]),(3,[.one (.own 240)])],[(240,.sl 5 out_3)])
noncomputable def BAQ (k:Gt→Option ByteArray) (n_0:Int):Option ByteArray:=
 k (.c0 n_0 [])
noncomputable def O7 (k:Gt→Option ByteArray):Gt→Option ByteArray
 | .c0 n_0 out_3=>
 bif (decide (n_0 > 127)) then
  bif (decide (((out_3.length+1)*1)≤140737488355328)) then
  k (.c0 (w64 (n_0.tdiv 128)) (out_3++[(w8 (w64 ((n_0.tmod 128)+128)))]))
  else none
 else
  bif (decide (((out_3.length+1)*1)≤140737488355328)) then
  some (ofBytes (out_3++[(w8 n_0)]))
  else none
noncomputable def Ht:Nat→Gt→Option ByteArray
 | 0,_=>none
 | m+1,s=>O7 (Ht m) s
noncomputable def SY:Xb:=BAQ (Ht gas)
theorem Ii:Tells ctx PP 147 cv15 cv3 (fun a=>SY a):=
 have b:CutIs ctx PP 147 Tryz.f147 [] [] cv3 AAQ (O7):=fun _ s=>by cases s <;> kernel_rfl
 have e:EntryIs ctx PP 147 [] [] cv15 cv3 AAQ (fun k a=>BAQ k a):=fun _ a=>by kernel_rfl
 fn_ok hl_nil Tryz.func147 (fun s s' h=>by cases s;cases s';cases h;rfl) (fun _=>rfl) (fun _ _=>rfl) b e gas
noncomputable def Je {γ:Type} (F:Xb):Hd ctx γ:=hdl cv15.dec (fun a=>F a) cv3.enc
abbrev Jt:=SThing→Option Bool
noncomputable def QAG (z0:PZ) (x_0:SThing):Option Bool:=
 (z0 x_0.fId 1 1000).bind fun r0=>
 bif (!r0) then
 some false
 else
 (z0 x_0.fKind 1 3).bind fun r1=>
 bif (!r1) then
  some false
 else
  (z0 x_0.fNext 0 16).bind fun r2=>
  bif (!r2) then
  some false
  else
  bif (x_0.fKind != 2) then
   bif (x_0.fNext != 0) then
   some false
   else
   bif x_0.fSigns then
    some false
   else
    bif (x_0.fKind != 1) then
    bif x_0.fWraps then
     some false
    else
     bif (x_0.fKind == 3) then
     some (decide ((x_0.fValue.size:Int)≤100))
     else
     some ((x_0.fValue.size:Int) == 32)
    else
    bif (x_0.fKind == 3) then
     some (decide ((x_0.fValue.size:Int)≤100))
    else
     some ((x_0.fValue.size:Int) == 32)
  else
   bif (x_0.fKind != 1) then
   bif x_0.fWraps then
    some false
   else
    bif (x_0.fKind == 3) then
    some (decide ((x_0.fValue.size:Int)≤100))
    else
    some ((x_0.fValue.size:Int) == 32)
   else
   bif (x_0.fKind == 3) then
    some (decide ((x_0.fValue.size:Int)≤100))
   else
    some ((x_0.fValue.size:Int) == 32)
noncomputable def Me:Jt:=QAG AY
theorem CAQ:Tells ctx PP 120 cv16 cv6 (fun a=>Me a):=fn_ok0 (hc Ie hl_nil) Tryz.func120 ((fun z0 a=>by kernel_rfl:∀ z0,EntryIs0 ctx PP 120 [] [(50,Na z0)] cv16 cv6 fun a=>QAG z0 a) AY)
noncomputable def RAG {γ:Type} (F:Jt):Hd ctx γ:=hdl cv16.dec (fun a=>F a) cv6.enc
abbrev SAG:=Bool→Int→Option Int
noncomputable def DAQ (x_0:Bool) (n_1:Int):Option Int:=
 bif x_0 then
 some n_1
 else
 some 0
noncomputable def P7:SAG:=DAQ
theorem FAb:Tells ctx PP 178 cv17 cv15 (fun a=>P7 a.1 a.2):=fn_ok0 hl_nil Tryz.func178 (fun a=>by kernel_rfl:EntryIs0 ctx PP 178 [] [] cv17 cv15 fun a=>DAQ a.1 a.2)
noncomputable def GAb {γ:Type} (F:SAG):Hd ctx γ:=hdl cv17.dec (fun a=>F a.1 a.2) cv15.enc
abbrev Kt:=Int→Option ByteArray
noncomputable def UAG (n_0:Int):Option ByteArray:=
 bif (decide ((n_0.tmod 256)<0)) then
 some (ofBytes [(w8 (w64 ((n_0.tmod 256)+256)))])
 else
 some (ofBytes [(w8 (n_0.tmod 256))])
noncomputable def Oe:Kt:=UAG
theorem EAQ:Tells ctx PP 179 cv15 cv3 (fun a=>Oe a):=fn_ok0 hl_nil Tryz.func179 (fun a=>by kernel_rfl:EntryIs0 ctx PP 179 [] [] cv15 cv3 fun a=>UAG a)
noncomputable def VAG {γ:Type} (F:Kt):Hd ctx γ:=hdl cv15.dec (fun a=>F a) cv3.enc
abbrev WAG:=ByteArray→Option ByteArray
noncomputable def XAG (z0:Xb) (s_0:ByteArray):Option ByteArray:=
 (z0 (s_0.size:Int)).bind fun r0=>
 bif (decide ((r0.size+s_0.size)≤9223372036854775807)) then
 some (r0++s_0)
 else none
noncomputable def Ot:WAG:=XAG SY
theorem HAb:Tells ctx PP 180 cv3 cv3 (fun a=>Ot a):=fn_ok0 (hc Ii hl_nil) Tryz.func180 ((fun z0 a=>by kernel_rfl:∀ z0,EntryIs0 ctx PP 180 [] [(147,Je z0)] cv3 cv3 fun a=>XAG z0 a) SY)
noncomputable def IAb {γ:Type} (F:WAG):Hd ctx γ:=hdl cv3.dec (fun a=>F a) cv3.enc
abbrev Q7:=SThing→Option (ByteArray×Bool)
noncomputable def YAG (z0:Jt) (z1:SAG) (z2:Xb) (z3:Kt) (z4:WAG) (x_0:SThing):Option (ByteArray×Bool):=
 (z0 x_0).bind fun r0=>
 bif (!r0) then
 some (⟨#[]⟩,false)
 else
 (z1 x_0.fHidden 1).bind fun r1=>
 (z1 x_0.fFixed 2).bind fun r2=>
 (z1 x_0.fSigns 4).bind fun r3=>
 (z1 x_0.fWraps 8).bind fun r4=>
 (z2 x_0.fId).bind fun r5=>
 (z3 x_0.fKind).bind fun r6=>
 bif (decide ((r5.size+r6.size)≤9223372036854775807)) then
 (z3 (w64 ((w64 ((w64 (r1+r2))+r3))+r4))).bind fun r7=>
 bif (decide (((r5++r6).size+r7.size)≤9223372036854775807)) then
 (z4 x_0.fValue).bind fun r8=>
 bif (decide ((((r5++r6)++r7).size+r8.size)≤9223372036854775807)) then
 (z2 x_0.fNext).bind fun r9=>
 bif (decide (((((r5++r6)++r7)++r8).size+r9.size)≤9223372036854775807)) then
 some (((((r5++r6)++r7)++r8)++r9),true)
 else none
 else none
 else none
 else none
noncomputable def Ji:Q7:=YAG Me P7 SY Oe Ot
theorem FAQ:Tells ctx PP 148 cv16 cv18 (fun a=>Ji a):=fn_ok0 (hc CAQ (hc FAb (hc Ii (hc EAQ (hc HAb hl_nil))))) Tryz.func148 ((fun z0 z1 z2 z3 z4 a=>by kernel_rfl:∀ z0 z1 z2 z3 z4,EntryIs0 ctx PP 148 [] [(120,RAG z0),(178,GAb z1),(147,Je z2),(179,VAG z3),(180,IAb z4)] cv16 cv18 fun a=>YAG z0 z1 z2 z3 z4 a) Me P7 SY Oe Ot)
noncomputable def GAQ {γ:Type} (F:Q7):Hd ctx γ:=hdl cv16.dec (fun a=>F a) cv18.enc
abbrev Rt:=SRec→Option (ByteArray×Bool)
noncomputable def AAH (z0:PZ) (z1:Xb) (z2:Q7) (r_0:SRec):Option (ByteArray×Bool):=
 bif (r_0.fKind == 1) then
 bif ((r_0.fText.size:Int) == 32) then
  bif (r_0.fNum == 0) then
  bif ((r_0.fThing.fId == 0) && ((r_0.fThing.fKind == 0) && ((r_0.fThing.fHidden == false) && ((r_0.fThing.fFixed == false) && ((r_0.fThing.fSigns == false) && ((r_0.fThing.fWraps == false) && (((ByteArray.toList r_0.fThing.fValue) == (ByteArray.toList ⟨#[]⟩)) && ((r_0.fThing.fNext == 0) && true)))))))) then
   bif (decide (((⟨#[1]⟩:ByteArray).size+r_0.fText.size)≤9223372036854775807)) then
   some (((⟨#[1]⟩:ByteArray)++r_0.fText),true)
   else none
  else
   some (⟨#[]⟩,false)
  else
  some (⟨#[]⟩,false)
 else
  some (⟨#[]⟩,false)
 else
 bif (r_0.fKind == 2) then
  bif ((ByteArray.toList r_0.fText) == (ByteArray.toList ⟨#[]⟩)) then
  bif ((r_0.fThing.fId == 0) && ((r_0.fThing.fKind == 0) && ((r_0.fThing.fHidden == false) && ((r_0.fThing.fFixed == false) && ((r_0.fThing.fSigns == false) && ((r_0.fThing.fWraps == false) && (((ByteArray.toList r_0.fThing.fValue) == (ByteArray.toList ⟨#[]⟩)) && ((r_0.fThing.fNext == 0) && true)))))))) then
   (z0 r_0.fNum 0 3).bind fun r0=>
   bif r0 then
   (z1 r_0.fNum).bind fun r1=>
   bif (decide (((⟨#[2]⟩:ByteArray).size+r1.size)≤9223372036854775807)) then
   some (((⟨#[2]⟩:ByteArray)++r1),true)
   else none
   else
   some (⟨#[]⟩,false)
  else
   some (⟨#[]⟩,false)
  else
  some (⟨#[]⟩,false)
 else
  bif (r_0.fKind == 3) then
  (z2 r_0.fThing).bind fun r2=>
  bif r2.2 then
   bif ((ByteArray.toList r_0.fText) == (ByteArray.toList ⟨#[]⟩)) then
   bif (r_0.fNum == 0) then
    bif (decide (((⟨#[3]⟩:ByteArray).size+r2.1.size)≤9223372036854775807)) then
    some (((⟨#[3]⟩:ByteArray)++r2.1),true)
    else none
   else
    some (⟨#[]⟩,false)
   else
   some (⟨#[]⟩,false)
  else
   some (⟨#[]⟩,false)
  else
  bif (r_0.fKind == 4) then
   bif ((ByteArray.toList r_0.fText) == (ByteArray.toList ⟨#[]⟩)) then
   bif ((r_0.fThing.fId == 0) && ((r_0.fThing.fKind == 0) && ((r_0.fThing.fHidden == false) && ((r_0.fThing.fFixed == false) && ((r_0.fThing.fSigns == false) && ((r_0.fThing.fWraps == false) && (((ByteArray.toList r_0.fThing.fValue) == (ByteArray.toList ⟨#[]⟩)) && ((r_0.fThing.fNext == 0) && true)))))))) then
    (z0 r_0.fNum 1 1000).bind fun r3=>
    bif r3 then
    (z1 r_0.fNum).bind fun r4=>
    bif (decide (((⟨#[4]⟩:ByteArray).size+r4.size)≤9223372036854775807)) then
    some (((⟨#[4]⟩:ByteArray)++r4),true)
    else none
    else
    some (⟨#[]⟩,false)
   else
    some (⟨#[]⟩,false)
   else
   some (⟨#[]⟩,false)
  else
   some (⟨#[]⟩,false)
noncomputable def Qe:Rt:=AAH AY SY Ji
theorem HAQ:Tells ctx PP 92 cv19 cv18 (fun a=>Qe a):=fn_ok0 (hc Ie (hc Ii (hc FAQ hl_nil))) Tryz.func92 ((fun z0 z1 z2 a=>by kernel_rfl:∀ z0 z1 z2,EntryIs0 ctx PP 92 [] [(50,Na z0),(147,Je z1),(148,GAQ z2)] cv19 cv18 fun a=>AAH z0 z1 z2 a) AY SY Ji)
noncomputable def BAH {γ:Type} (F:Rt):Hd ctx γ:=hdl cv19.dec (fun a=>F a) cv18.enc
abbrev U7:=SBook→Option Bool
inductive Tt where
 | c0 (i_3:Int) (b_1:SBook)
noncomputable def IAQ:Tt→LI
 | .c0 i_3 b_1=>(tdo Tryz.f53 464,[(1,[.one (.ptr 64 0)]),(3,[.one (.int .i64 i_3)])],[(64,.var [.str b_1.fWord,.int .i64 b_1.fTries,.rsl 69 b_1.fThings,.int .i64 b_1.fLast,.str b_1.fChain,.int .i64 b_1.fCount])])
noncomputable def CAH (z0:PZ) (z1:Jt) (k:Tt→Option Bool) (b_0:SBook):Option Bool:=
 bif ((b_0.fWord.size:Int) != 32) then
 some false
 else
 bif ((b_0.fChain.size:Int) != 32) then
  some false
 else
  (z0 b_0.fTries 0 3).bind fun r0=>
  bif (!r0) then
  some false
  else
  bif (decide ((b_0.fThings.length:Int) > 8)) then
   some false
  else
   (z0 b_0.fLast 0 1000).bind fun r1=>
   bif (!r1) then
   some false
   else
   (z0 b_0.fCount 0 10000).bind fun r2=>
   bif (!r2) then
    some false
   else
    k (.c0 0 b_0)
noncomputable def V7 (z0:PZ) (z1:Jt) (k:Tt→Option Bool):Tt→Option Bool
 | .c0 i_3 b_1=>
 bif (decide (i_3<(b_1.fThings.length:Int))) then
  bif ((decide (0≤i_3)) && (decide (i_3<(b_1.fThings.length:Int)))) then
  (z1 (b_1.fThings.getD i_3.toNat (⟨0,0,false,false,false,false,⟨#[]⟩,0⟩:SThing))).bind fun r0=>
  bif (!r0) then
  some false
  else
  bif ((decide (0≤i_3)) && (decide (i_3<(b_1.fThings.length:Int)))) then
  bif (decide ((b_1.fThings.getD i_3.toNat (⟨0,0,false,false,false,false,⟨#[]⟩,0⟩:SThing)).fId > b_1.fLast)) then
   some false
  else
   bif (decide (i_3 > 0)) then
   bif ((decide (0≤(w64 (i_3 - 1)))) && (decide ((w64 (i_3 - 1))<(b_1.fThings.length:Int)))) then
   bif ((decide (0≤i_3)) && (decide (i_3<(b_1.fThings.length:Int)))) then
   bif (decide ((b_1.fThings.getD (w64 (i_3 - 1)).toNat (⟨0,0,false,false,false,false,⟨#[]⟩,0⟩:SThing)).fId≥(b_1.fThings.getD i_3.toNat (⟨0,0,false,false,false,false,⟨#[]⟩,0⟩:SThing)).fId)) then
    some false
   else
    k (.c0 (w64 (i_3+1)) b_1)
   else none
   else none
   else
   k (.c0 (w64 (i_3+1)) b_1)
  else none
  else none
 else
  some true
noncomputable def Oi:Nat→Tt→Option Bool
 | 0,_=>none
 | m+1,s=>V7 AY Me (Oi m) s
noncomputable def Qi:U7:=CAH AY Me (Oi gas)
theorem JAb:Tells ctx PP 53 cv20 cv6 (fun a=>Qi a):=
 have b:∀ z0 z1,CutIs ctx PP 53 Tryz.f53 [] [(50,Na z0),(120,RAG z1)] cv6 IAQ (V7 z0 z1):=fun z0 z1 _ s=>by cases s <;> kernel_rfl
 have e:∀ z0 z1,EntryIs ctx PP 53 [] [(50,Na z0),(120,RAG z1)] cv20 cv6 IAQ (fun k a=>CAH z0 z1 k a):=fun z0 z1 _ a=>by kernel_rfl
 fn_ok (hc Ie (hc CAQ hl_nil)) Tryz.func53 (fun s s' h=>by cases s;cases s';(repeat cases ‹SBook›);cases h;rfl) (fun _=>rfl) (fun _ _=>rfl) (b AY Me) (e AY Me) gas
noncomputable def JAQ {γ:Type} (F:U7):Hd ctx γ:=hdl cv20.dec (fun a=>F a) cv6.enc
abbrev X7:=SBook→Int→Option (SThing×Bool)
inductive Ut where
 | c0 (id_1:Int) (i_6:Int) (b_2:SBook) (v_4:SThing)
noncomputable def KAQ:Ut→LI
 | .c0 id_1 i_6 b_2 v_4=>(tdo Tryz.f94 208,[(1,[.one (.int .i64 id_1)]),(2,[.one (.ptr 128 0)]),(4,[.one (.ptr 256 0)]),(6,[.one (.int .i64 i_6)])],[(128,.var [.str b_2.fWord,.int .i64 b_2.fTries,.rsl 69 b_2.fThings,.int .i64 b_2.fLast,.str b_2.fChain,.int .i64 b_2.fCount]),(256,.var [.int .i64 v_4.fId,.int .i64 v_4.fKind,.bool v_4.fHidden,.bool v_4.fFixed,.bool v_4.fSigns,.bool v_4.fWraps,.str v_4.fValue,.int .i64 v_4.fNext])])
noncomputable def LAQ (k:Ut→Option (SThing×Bool)) (b_0:SBook) (id_1:Int):Option (SThing×Bool):=
 k (.c0 id_1 0 b_0 ⟨0,0,false,false,false,false,⟨#[]⟩,0⟩)
noncomputable def Y7 (k:Ut→Option (SThing×Bool)):Ut→Option (SThing×Bool)
 | .c0 id_1 i_6 b_2 v_4=>
 bif (decide (i_6<(b_2.fThings.length:Int))) then
  bif ((decide (0≤i_6)) && (decide (i_6<(b_2.fThings.length:Int)))) then
  bif ((b_2.fThings.getD i_6.toNat (⟨0,0,false,false,false,false,⟨#[]⟩,0⟩:SThing)).fId == id_1) then
  bif ((decide (0≤i_6)) && (decide (i_6<(b_2.fThings.length:Int)))) then
  some ((b_2.fThings.getD i_6.toNat (⟨0,0,false,false,false,false,⟨#[]⟩,0⟩:SThing)),true)
  else none
  else
  k (.c0 id_1 (w64 (i_6+1)) b_2 v_4)
  else none
 else
  some (⟨0,0,false,false,false,false,⟨#[]⟩,0⟩,false)
noncomputable def Zl:Nat→Ut→Option (SThing×Bool)
 | 0,_=>none
 | m+1,s=>Y7 (Zl m) s
noncomputable def Am:X7:=LAQ (Zl gas)
theorem KAb:Tells ctx PP 94 cv21 cv22 (fun a=>Am a.1 a.2):=
 have b:CutIs ctx PP 94 Tryz.f94 [] [] cv22 KAQ (Y7):=fun _ s=>by cases s <;> kernel_rfl
 have e:EntryIs ctx PP 94 [] [] cv21 cv22 KAQ (fun k a=>LAQ k a.1 a.2):=fun _ a=>by kernel_rfl
 fn_ok hl_nil Tryz.func94 (fun s s' h=>by cases s;cases s';(repeat cases ‹SBook›);(repeat cases ‹SThing›);cases h;rfl) (fun _=>rfl) (fun _ _=>rfl) b e gas
noncomputable def MAQ {γ:Type} (F:X7):Hd ctx γ:=hdl cv21.dec (fun a=>F a.1 a.2) cv22.enc
abbrev Z7:=SThing→SThing→Option Bool
noncomputable def DAH (a_0:SThing) (b_1:SThing):Option Bool:=
 bif (a_0.fKind == b_1.fKind) then
 bif ((ByteArray.toList a_0.fValue) == (ByteArray.toList b_1.fValue)) then
  bif (a_0.fSigns == b_1.fSigns) then
  bif (a_0.fWraps == b_1.fWraps) then
   bif (decide (a_0.fNext≤b_1.fNext)) then
   bif b_1.fHidden then
    bif b_1.fFixed then
    some true
    else
    some (!a_0.fFixed)
   else
    bif (!a_0.fHidden) then
    bif b_1.fFixed then
     some true
    else
     some (!a_0.fFixed)
    else
    some false
   else
   some false
  else
   some false
  else
  some false
 else
  some false
 else
 some false
noncomputable def Ri:Z7:=DAH
theorem LAb:Tells ctx PP 95 cv23 cv6 (fun a=>Ri a.1 a.2):=fn_ok0 hl_nil Tryz.func95 (fun a=>by kernel_rfl:EntryIs0 ctx PP 95 [] [] cv23 cv6 fun a=>DAH a.1 a.2)
noncomputable def NAQ {γ:Type} (F:Z7):Hd ctx γ:=hdl cv23.dec (fun a=>F a.1 a.2) cv6.enc
abbrev A8:=(List SThing)→SThing→Option (List SThing)
inductive Vt where
 | c0 (list_0:(List SThing)) (i_6:Int) (x_3:SThing) (out_5:(List SThing))
 | c1 (list_0:(List SThing)) (i_7:Int) (x_3:SThing) (out_5:(List SThing))
noncomputable def OAQ:Vt→LI
 | .c0 list_0 i_6 x_3 out_5=>(tdo Tryz.f96 464,[(0,[.one (.rsl 69 list_0)]),(3,[.one (.ptr 192 0)]),(5,[.one (.own 368)]),(6,[.one (.int .i64 i_6)])],[(192,.var [.int .i64 x_3.fId,.int .i64 x_3.fKind,.bool x_3.fHidden,.bool x_3.fFixed,.bool x_3.fSigns,.bool x_3.fWraps,.str x_3.fValue,.int .i64 x_3.fNext]),(368,.sl 69 out_5)])
 | .c1 list_0 i_7 x_3 out_5=>(tdo Tryz.f96 2000,[(0,[.one (.rsl 69 list_0)]),(3,[.one (.ptr 192 0)]),(5,[.one (.own 368)]),(7,[.one (.int .i64 i_7)])],[(192,.var [.int .i64 x_3.fId,.int .i64 x_3.fKind,.bool x_3.fHidden,.bool x_3.fFixed,.bool x_3.fSigns,.bool x_3.fWraps,.str x_3.fValue,.int .i64 x_3.fNext]),(368,.sl 69 out_5)])
noncomputable def EAH (k:Vt→Option (List SThing)) (list_0:(List SThing)) (x_1:SThing):Option (List SThing):=
 k (.c0 list_0 0 x_1 [])
noncomputable def Cm (k:Vt→Option (List SThing)):Vt→Option (List SThing)
 | .c0 list_0 i_6 x_3 out_5=>
 bif (decide (i_6<(list_0.length:Int))) then
  bif ((decide (0≤i_6)) && (decide (i_6<(list_0.length:Int)))) then
  bif (decide ((list_0.getD i_6.toNat (⟨0,0,false,false,false,false,⟨#[]⟩,0⟩:SThing)).fId<x_3.fId)) then
  bif ((decide (0≤i_6)) && (decide (i_6<(list_0.length:Int)))) then
  bif (decide (((out_5.length+1)*48)≤140737488355328)) then
  k (.c0 list_0 (w64 (i_6+1)) x_3 (out_5++[(list_0.getD i_6.toNat (⟨0,0,false,false,false,false,⟨#[]⟩,0⟩:SThing))]))
  else none
  else none
  else
  k (.c0 list_0 (w64 (i_6+1)) x_3 out_5)
  else none
 else
  bif (decide (((out_5.length+1)*48)≤140737488355328)) then
  k (.c1 list_0 0 x_3 (out_5++[x_3]))
  else none
 | .c1 list_0 i_7 x_3 out_5=>
 bif (decide (i_7<(list_0.length:Int))) then
  bif ((decide (0≤i_7)) && (decide (i_7<(list_0.length:Int)))) then
  bif (decide ((list_0.getD i_7.toNat (⟨0,0,false,false,false,false,⟨#[]⟩,0⟩:SThing)).fId > x_3.fId)) then
  bif ((decide (0≤i_7)) && (decide (i_7<(list_0.length:Int)))) then
  bif (decide (((out_5.length+1)*48)≤140737488355328)) then
  k (.c1 list_0 (w64 (i_7+1)) x_3 (out_5++[(list_0.getD i_7.toNat (⟨0,0,false,false,false,false,⟨#[]⟩,0⟩:SThing))]))
  else none
  else none
  else
  k (.c1 list_0 (w64 (i_7+1)) x_3 out_5)
  else none
 else
  some out_5
noncomputable def Ue:Nat→Vt→Option (List SThing)
 | 0,_=>none
 | m+1,s=>Cm (Ue m) s
noncomputable def Si:A8:=EAH (Ue gas)
theorem MAb:Tells ctx PP 96 cv24 cv25 (fun a=>Si a.1 a.2):=
 have b:CutIs ctx PP 96 Tryz.f96 [] [] cv25 OAQ (Cm):=fun _ s=>by cases s <;> kernel_rfl
 have e:EntryIs ctx PP 96 [] [] cv24 cv25 OAQ (fun k a=>EAH k a.1 a.2):=fun _ a=>by kernel_rfl
 fn_ok hl_nil Tryz.func96 (fun s s' h=>by cases s <;> cases s' <;> first | ((repeat cases ‹SThing›);cases h;done) | ((repeat cases ‹SThing›);cases h;rfl) | exact (rg_ne h (by kernel_rfl)).elim) (fun _=>rfl) (fun _ _=>rfl) b e gas
noncomputable def PAQ {γ:Type} (F:A8):Hd ctx γ:=hdl cv24.dec (fun a=>F a.1 a.2) cv25.enc
abbrev D8:=SBook→SRec→Option (SBook×Bool)
inductive Xt where
 | c0 (y_6:ByteArray) (v_14:Int) (A_2:SBook) (r_3:SRec) (r_4c0:ByteArray) (r_4c1:Int) (r_4c3:Int) (r_4c4:ByteArray) (r_4c5:Int) (v_8c0:ByteArray) (v_8c1:Int) (v_8c3:Int) (v_8c4:ByteArray) (v_8c5:Int) (v_13:(List SThing)) (r_4r2:(List SThing)) (v_8r2:(List SThing))
noncomputable def QAQ:Xt→LI
 | .c0 y_6 v_14 A_2 r_3 r_4c0 r_4c1 r_4c3 r_4c4 r_4c5 v_8c0 v_8c1 v_8c3 v_8c4 v_8c5 v_13 r_4r2 v_8r2=>(tdo Tryz.f27 32898512,[(2,[.one (.ptr 128 0)]),(3,[.one (.ptr 192 0)]),(4,[.one (.ptr 256 0)]),(6,[.one (.str y_6)]),(8,[.one (.ptr 512 0)]),(13,[.one (.own 880)]),(14,[.one (.int .i64 v_14)])],[(128,.var [.str A_2.fWord,.int .i64 A_2.fTries,.rsl 69 A_2.fThings,.int .i64 A_2.fLast,.str A_2.fChain,.int .i64 A_2.fCount]),(192,.var [.int .i64 r_3.fKind,.str r_3.fText,.int .i64 r_3.fNum,.int .i64 r_3.fThing.fId,.int .i64 r_3.fThing.fKind,.bool r_3.fThing.fHidden,.bool r_3.fThing.fFixed,.bool r_3.fThing.fSigns,.bool r_3.fThing.fWraps,.str r_3.fThing.fValue,.int .i64 r_3.fThing.fNext]),(256,.var [.str r_4c0,.int .i64 r_4c1,.own 1016386,.int .i64 r_4c3,.str r_4c4,.int .i64 r_4c5]),(512,.var [.str v_8c0,.int .i64 v_8c1,.own 1032770,.int .i64 v_8c3,.str v_8c4,.int .i64 v_8c5]),(880,.sl 69 v_13),(1016386,.sl 69 r_4r2),(1032770,.sl 69 v_8r2)])
noncomputable def FAH (z0:Rt) (z1:U7) (z2:Yl) (z3:X7) (z4:Z7) (z5:A8) (z6:Ag) (k:Xt→Option (SBook×Bool)) (t_0:SBook) (o_1:SRec):Option (SBook×Bool):=
 (z0 o_1).bind fun r0=>
 (z1 t_0).bind fun r1=>
 bif (!r1) then
 some (⟨⟨#[]⟩,0,[],0,⟨#[]⟩,0⟩,false)
 else
 bif (!r0.2) then
  some (⟨⟨#[]⟩,0,[],0,⟨#[]⟩,0⟩,false)
 else
  bif (t_0.fCount == 10000) then
  some (⟨⟨#[]⟩,0,[],0,⟨#[]⟩,0⟩,false)
  else
  (z2 t_0).bind fun r2=>
  bif (o_1.fKind == 1) then
   bif (decide ((t_0.fChain.size+r0.1.size)≤9223372036854775807)) then
   (z6 (t_0.fChain++r0.1)).bind fun r3=>
   (z1 ⟨o_1.fText,0,r2.fThings,r2.fLast,r3,(w64 (t_0.fCount+1))⟩).bind fun r4=>
   bif (!r4) then
   some (⟨⟨#[]⟩,0,[],0,⟨#[]⟩,0⟩,false)
   else
   some (⟨o_1.fText,0,r2.fThings,r2.fLast,r3,(w64 (t_0.fCount+1))⟩,true)
   else none
  else
   bif (o_1.fKind == 2) then
   bif (decide ((t_0.fChain.size+r0.1.size)≤9223372036854775807)) then
   (z6 (t_0.fChain++r0.1)).bind fun r5=>
   (z1 ⟨r2.fWord,o_1.fNum,r2.fThings,r2.fLast,r5,(w64 (t_0.fCount+1))⟩).bind fun r6=>
   bif (!r6) then
    some (⟨⟨#[]⟩,0,[],0,⟨#[]⟩,0⟩,false)
   else
    some (⟨r2.fWord,o_1.fNum,r2.fThings,r2.fLast,r5,(w64 (t_0.fCount+1))⟩,true)
   else none
   else
   bif (o_1.fKind == 3) then
    (z3 t_0 o_1.fThing.fId).bind fun r7=>
    bif r7.2 then
    (z4 r7.1 o_1.fThing).bind fun r8=>
    bif (!r8) then
     some (⟨⟨#[]⟩,0,[],0,⟨#[]⟩,0⟩,false)
    else
     bif (!r7.2) then
     bif (o_1.fThing.fId != (w64 (t_0.fLast+1))) then
      some (⟨⟨#[]⟩,0,[],0,⟨#[]⟩,0⟩,false)
     else
      bif ((t_0.fThings.length:Int) == 8) then
      some (⟨⟨#[]⟩,0,[],0,⟨#[]⟩,0⟩,false)
      else
      bif (!r7.2) then
       (z5 t_0.fThings o_1.fThing).bind fun r9=>
       bif (decide ((t_0.fChain.size+r0.1.size)≤9223372036854775807)) then
       (z6 (t_0.fChain++r0.1)).bind fun r10=>
       (z1 ⟨r2.fWord,r2.fTries,r9,o_1.fThing.fId,r10,(w64 (t_0.fCount+1))⟩).bind fun r11=>
       bif (!r11) then
       some (⟨⟨#[]⟩,0,[],0,⟨#[]⟩,0⟩,false)
       else
       some (⟨r2.fWord,r2.fTries,r9,o_1.fThing.fId,r10,(w64 (t_0.fCount+1))⟩,true)
       else none
      else
       (z5 t_0.fThings o_1.fThing).bind fun r12=>
       bif (decide ((t_0.fChain.size+r0.1.size)≤9223372036854775807)) then
       (z6 (t_0.fChain++r0.1)).bind fun r13=>
       (z1 ⟨r2.fWord,r2.fTries,r12,r2.fLast,r13,(w64 (t_0.fCount+1))⟩).bind fun r14=>
       bif (!r14) then
       some (⟨⟨#[]⟩,0,[],0,⟨#[]⟩,0⟩,false)
       else
       some (⟨r2.fWord,r2.fTries,r12,r2.fLast,r13,(w64 (t_0.fCount+1))⟩,true)
       else none
     else
     bif (!r7.2) then
      (z5 t_0.fThings o_1.fThing).bind fun r15=>
      bif (decide ((t_0.fChain.size+r0.1.size)≤9223372036854775807)) then
      (z6 (t_0.fChain++r0.1)).bind fun r16=>
      (z1 ⟨r2.fWord,r2.fTries,r15,o_1.fThing.fId,r16,(w64 (t_0.fCount+1))⟩).bind fun r17=>
      bif (!r17) then
      some (⟨⟨#[]⟩,0,[],0,⟨#[]⟩,0⟩,false)
      else
      some (⟨r2.fWord,r2.fTries,r15,o_1.fThing.fId,r16,(w64 (t_0.fCount+1))⟩,true)
      else none
     else
      (z5 t_0.fThings o_1.fThing).bind fun r18=>
      bif (decide ((t_0.fChain.size+r0.1.size)≤9223372036854775807)) then
      (z6 (t_0.fChain++r0.1)).bind fun r19=>
      (z1 ⟨r2.fWord,r2.fTries,r18,r2.fLast,r19,(w64 (t_0.fCount+1))⟩).bind fun r20=>
      bif (!r20) then
      some (⟨⟨#[]⟩,0,[],0,⟨#[]⟩,0⟩,false)
      else
      some (⟨r2.fWord,r2.fTries,r18,r2.fLast,r19,(w64 (t_0.fCount+1))⟩,true)
      else none
    else
    bif (!r7.2) then
     bif (o_1.fThing.fId != (w64 (t_0.fLast+1))) then
     some (⟨⟨#[]⟩,0,[],0,⟨#[]⟩,0⟩,false)
     else
     bif ((t_0.fThings.length:Int) == 8) then
      some (⟨⟨#[]⟩,0,[],0,⟨#[]⟩,0⟩,false)
     else
      bif (!r7.2) then
      (z5 t_0.fThings o_1.fThing).bind fun r21=>
      bif (decide ((t_0.fChain.size+r0.1.size)≤9223372036854775807)) then
      (z6 (t_0.fChain++r0.1)).bind fun r22=>
      (z1 ⟨r2.fWord,r2.fTries,r21,o_1.fThing.fId,r22,(w64 (t_0.fCount+1))⟩).bind fun r23=>
      bif (!r23) then
       some (⟨⟨#[]⟩,0,[],0,⟨#[]⟩,0⟩,false)
      else
       some (⟨r2.fWord,r2.fTries,r21,o_1.fThing.fId,r22,(w64 (t_0.fCount+1))⟩,true)
      else none
      else
      (z5 t_0.fThings o_1.fThing).bind fun r24=>
      bif (decide ((t_0.fChain.size+r0.1.size)≤9223372036854775807)) then
      (z6 (t_0.fChain++r0.1)).bind fun r25=>
      (z1 ⟨r2.fWord,r2.fTries,r24,r2.fLast,r25,(w64 (t_0.fCount+1))⟩).bind fun r26=>
      bif (!r26) then
       some (⟨⟨#[]⟩,0,[],0,⟨#[]⟩,0⟩,false)
      else
       some (⟨r2.fWord,r2.fTries,r24,r2.fLast,r25,(w64 (t_0.fCount+1))⟩,true)
      else none
    else
     bif (!r7.2) then
     (z5 t_0.fThings o_1.fThing).bind fun r27=>
     bif (decide ((t_0.fChain.size+r0.1.size)≤9223372036854775807)) then
     (z6 (t_0.fChain++r0.1)).bind fun r28=>
     (z1 ⟨r2.fWord,r2.fTries,r27,o_1.fThing.fId,r28,(w64 (t_0.fCount+1))⟩).bind fun r29=>
     bif (!r29) then
      some (⟨⟨#[]⟩,0,[],0,⟨#[]⟩,0⟩,false)
     else
      some (⟨r2.fWord,r2.fTries,r27,o_1.fThing.fId,r28,(w64 (t_0.fCount+1))⟩,true)
     else none
     else
     (z5 t_0.fThings o_1.fThing).bind fun r30=>
     bif (decide ((t_0.fChain.size+r0.1.size)≤9223372036854775807)) then
     (z6 (t_0.fChain++r0.1)).bind fun r31=>
     (z1 ⟨r2.fWord,r2.fTries,r30,r2.fLast,r31,(w64 (t_0.fCount+1))⟩).bind fun r32=>
     bif (!r32) then
      some (⟨⟨#[]⟩,0,[],0,⟨#[]⟩,0⟩,false)
     else
      some (⟨r2.fWord,r2.fTries,r30,r2.fLast,r31,(w64 (t_0.fCount+1))⟩,true)
     else none
   else
    bif (o_1.fKind == 4) then
    (z3 t_0 o_1.fNum).bind fun r33=>
    bif (!r33.2) then
     some (⟨⟨#[]⟩,0,[],0,⟨#[]⟩,0⟩,false)
    else
     k (.c0 r0.1 0 t_0 o_1 ⟨#[]⟩ 0 0 ⟨#[]⟩ 0 r2.fWord r2.fTries r2.fLast r2.fChain r2.fCount [] [] r2.fThings)
    else
    bif (decide ((t_0.fChain.size+r0.1.size)≤9223372036854775807)) then
    (z6 (t_0.fChain++r0.1)).bind fun r34=>
    (z1 ⟨r2.fWord,r2.fTries,r2.fThings,r2.fLast,r34,(w64 (t_0.fCount+1))⟩).bind fun r35=>
    bif (!r35) then
     some (⟨⟨#[]⟩,0,[],0,⟨#[]⟩,0⟩,false)
    else
     some (⟨r2.fWord,r2.fTries,r2.fThings,r2.fLast,r34,(w64 (t_0.fCount+1))⟩,true)
    else none
noncomputable def E8 (z0:Rt) (z1:U7) (z2:Yl) (z3:X7) (z4:Z7) (z5:A8) (z6:Ag) (k:Xt→Option (SBook×Bool)):Xt→Option (SBook×Bool)
 | .c0 y_6 v_14 A_2 r_3 r_4c0 r_4c1 r_4c3 r_4c4 r_4c5 v_8c0 v_8c1 v_8c3 v_8c4 v_8c5 v_13 r_4r2 v_8r2=>
 bif (decide (v_14<(A_2.fThings.length:Int))) then
  bif ((decide (0≤v_14)) && (decide (v_14<(A_2.fThings.length:Int)))) then
  bif ((A_2.fThings.getD v_14.toNat (⟨0,0,false,false,false,false,⟨#[]⟩,0⟩:SThing)).fId != r_3.fNum) then
  bif ((decide (0≤v_14)) && (decide (v_14<(A_2.fThings.length:Int)))) then
  bif (decide (((v_13.length+1)*48)≤140737488355328)) then
  k (.c0 y_6 (w64 (v_14+1)) A_2 r_3 r_4c0 r_4c1 r_4c3 r_4c4 r_4c5 v_8c0 v_8c1 v_8c3 v_8c4 v_8c5 (v_13++[(A_2.fThings.getD v_14.toNat (⟨0,0,false,false,false,false,⟨#[]⟩,0⟩:SThing))]) r_4r2 v_8r2)
  else none
  else none
  else
  k (.c0 y_6 (w64 (v_14+1)) A_2 r_3 r_4c0 r_4c1 r_4c3 r_4c4 r_4c5 v_8c0 v_8c1 v_8c3 v_8c4 v_8c5 v_13 r_4r2 v_8r2)
  else none
 else
  bif (decide ((A_2.fChain.size+y_6.size)≤9223372036854775807)) then
  (z6 (A_2.fChain++y_6)).bind fun r0=>
  (z1 ⟨v_8c0,v_8c1,v_13,v_8c3,r0,(w64 (A_2.fCount+1))⟩).bind fun r1=>
  bif (!r1) then
  some (⟨⟨#[]⟩,0,[],0,⟨#[]⟩,0⟩,false)
  else
  some (⟨v_8c0,v_8c1,v_13,v_8c3,r0,(w64 (A_2.fCount+1))⟩,true)
  else none
noncomputable def Yt:Nat→Xt→Option (SBook×Bool)
 | 0,_=>none
 | m+1,s=>E8 Qe Qi Vb Am Ri Si RZ (Yt m) s
noncomputable def Ti:D8:=FAH Qe Qi Vb Am Ri Si RZ (Yt gas)
theorem NAb:Tells ctx PP 27 cv26 cv27 (fun a=>Ti a.1 a.2):=
 have b:∀ z0 z1 z2 z3 z4 z5 z6,CutIs ctx PP 27 Tryz.f27 [] [(92,BAH z0),(53,JAQ z1),(93,N7 z2),(94,MAQ z3),(95,NAQ z4),(96,PAQ z5),(26,Xl z6)] cv27 QAQ (E8 z0 z1 z2 z3 z4 z5 z6):=fun z0 z1 z2 z3 z4 z5 z6 _ s=>by cases s <;> kernel_rfl
 have e:∀ z0 z1 z2 z3 z4 z5 z6,EntryIs ctx PP 27 [] [(92,BAH z0),(53,JAQ z1),(93,N7 z2),(94,MAQ z3),(95,NAQ z4),(96,PAQ z5),(26,Xl z6)] cv26 cv27 QAQ (fun k a=>FAH z0 z1 z2 z3 z4 z5 z6 k a.1 a.2):=fun z0 z1 z2 z3 z4 z5 z6 _ a=>by kernel_rfl
 fn_ok (hc HAQ (hc JAb (hc ZAP (hc KAb (hc LAb (hc MAb (hc H7 hl_nil))))))) Tryz.func27 (fun s s' h=>by cases s;cases s';(repeat cases ‹SBook›);(repeat cases ‹SRec›);(repeat cases ‹SThing›);cases h;rfl) (fun _=>rfl) (fun _ _=>rfl) (b Qe Qi Vb Am Ri Si RZ) (e Qe Qi Vb Am Ri Si RZ) gas
noncomputable def RAQ {γ:Type} (F:D8):Hd ctx γ:=hdl cv26.dec (fun a=>F a.1 a.2) cv27.enc
abbrev F8:=SBook→(List SRec)→Option (SBook×Bool)
inductive Zt where
 | c0 (list_1:(List SRec)) (i_7:Int) (v_4c0:ByteArray) (v_4c1:Int) (v_4c3:Int) (v_4c4:ByteArray) (v_4c5:Int) (out_6c0:ByteArray) (out_6c1:Int) (out_6c3:Int) (out_6c4:ByteArray) (out_6c5:Int) (v_4r2:(List SThing)) (out_6r2:(List SThing))
noncomputable def SAQ:Zt→LI
 | .c0 list_1 i_7 v_4c0 v_4c1 v_4c3 v_4c4 v_4c5 out_6c0 out_6c1 out_6c3 out_6c4 out_6c5 v_4r2 out_6r2=>(tdo Tryz.f69 464,[(1,[.one (.rsl 71 list_1)]),(4,[.one (.ptr 256 0)]),(6,[.one (.ptr 384 0)]),(7,[.one (.int .i64 i_7)])],[(256,.var [.str v_4c0,.int .i64 v_4c1,.own 1016386,.int .i64 v_4c3,.str v_4c4,.int .i64 v_4c5]),(384,.var [.str out_6c0,.int .i64 out_6c1,.own 1024578,.int .i64 out_6c3,.str out_6c4,.int .i64 out_6c5]),(1016386,.sl 69 v_4r2),(1024578,.sl 69 out_6r2)])
noncomputable def GAH (z0:Yl) (z1:D8) (k:Zt→Option (SBook×Bool)) (b_0:SBook) (list_1:(List SRec)):Option (SBook×Bool):=
 (z0 b_0).bind fun r0=>
 k (.c0 list_1 0 ⟨#[]⟩ 0 0 ⟨#[]⟩ 0 r0.fWord r0.fTries r0.fLast r0.fChain r0.fCount [] r0.fThings)
noncomputable def G8 (z0:Yl) (z1:D8) (k:Zt→Option (SBook×Bool)):Zt→Option (SBook×Bool)
 | .c0 list_1 i_7 v_4c0 v_4c1 v_4c3 v_4c4 v_4c5 out_6c0 out_6c1 out_6c3 out_6c4 out_6c5 v_4r2 out_6r2=>
 bif (decide (i_7<(list_1.length:Int))) then
  bif ((decide (0≤i_7)) && (decide (i_7<(list_1.length:Int)))) then
  (z1 ⟨out_6c0,out_6c1,out_6r2,out_6c3,out_6c4,out_6c5⟩ (list_1.getD i_7.toNat (⟨0,⟨#[]⟩,0,⟨0,0,false,false,false,false,⟨#[]⟩,0⟩⟩:SRec))).bind fun r0=>
  bif (!r0.2) then
  some (⟨⟨#[]⟩,0,[],0,⟨#[]⟩,0⟩,false)
  else
  k (.c0 list_1 (w64 (i_7+1)) v_4c0 v_4c1 v_4c3 v_4c4 v_4c5 r0.1.fWord r0.1.fTries r0.1.fLast r0.1.fChain r0.1.fCount v_4r2 r0.1.fThings)
  else none
 else
  some (⟨out_6c0,out_6c1,out_6r2,out_6c3,out_6c4,out_6c5⟩,true)
noncomputable def Au:Nat→Zt→Option (SBook×Bool)
 | 0,_=>none
 | m+1,s=>G8 Vb Ti (Au m) s
noncomputable def Ui:F8:=GAH Vb Ti (Au gas)
theorem TAQ:Tells ctx PP 69 cv113 cv27 (fun a=>Ui a.1 a.2):=
 have b:∀ z0 z1,CutIs ctx PP 69 Tryz.f69 [] [(93,N7 z0),(27,RAQ z1)] cv27 SAQ (G8 z0 z1):=fun z0 z1 _ s=>by cases s <;> kernel_rfl
 have e:∀ z0 z1,EntryIs ctx PP 69 [] [(93,N7 z0),(27,RAQ z1)] cv113 cv27 SAQ (fun k a=>GAH z0 z1 k a.1 a.2):=fun z0 z1 _ a=>by kernel_rfl
 fn_ok (hc ZAP (hc NAb hl_nil)) Tryz.func69 (fun s s' h=>by cases s;cases s';cases h;rfl) (fun _=>rfl) (fun _ _=>rfl) (b Vb Ti) (e Vb Ti) gas
noncomputable def UAQ {γ:Type} (F:F8):Hd ctx γ:=hdl cv113.dec (fun a=>F a.1 a.2) cv27.enc
abbrev HAH:=SBook→SBook→Option Bool
inductive Du where
 | c0 (i_5:Int) (a_2:SBook) (b_3:SBook)
noncomputable def VAQ:Du→LI
 | .c0 i_5 a_2 b_3=>(tdo Tryz.f51 464,[(2,[.one (.ptr 128 0)]),(3,[.one (.ptr 192 0)]),(5,[.one (.int .i64 i_5)])],[(128,.var [.str a_2.fWord,.int .i64 a_2.fTries,.rsl 69 a_2.fThings,.int .i64 a_2.fLast,.str a_2.fChain,.int .i64 a_2.fCount]),(192,.var [.str b_3.fWord,.int .i64 b_3.fTries,.rsl 69 b_3.fThings,.int .i64 b_3.fLast,.str b_3.fChain,.int .i64 b_3.fCount])])
noncomputable def IAH (k:Du→Option Bool) (a_0:SBook) (b_1:SBook):Option Bool:=
 bif (!((ByteArray.toList a_0.fWord) == (ByteArray.toList b_1.fWord))) then
 some false
 else
 bif (a_0.fTries != b_1.fTries) then
  some false
 else
  bif (a_0.fLast != b_1.fLast) then
  some false
  else
  bif (!((ByteArray.toList a_0.fChain) == (ByteArray.toList b_1.fChain))) then
   some false
  else
   bif (a_0.fCount != b_1.fCount) then
   some false
   else
   bif ((a_0.fThings.length:Int) != (b_1.fThings.length:Int)) then
    some false
   else
    k (.c0 0 a_0 b_1)
noncomputable def H8 (k:Du→Option Bool):Du→Option Bool
 | .c0 i_5 a_2 b_3=>
 bif (decide (i_5<(a_2.fThings.length:Int))) then
  bif ((decide (0≤i_5)) && (decide (i_5<(a_2.fThings.length:Int)))) then
  bif ((decide (0≤i_5)) && (decide (i_5<(b_3.fThings.length:Int)))) then
  bif (!(((a_2.fThings.getD i_5.toNat (⟨0,0,false,false,false,false,⟨#[]⟩,0⟩:SThing)).fId == (b_3.fThings.getD i_5.toNat (⟨0,0,false,false,false,false,⟨#[]⟩,0⟩:SThing)).fId) && (((a_2.fThings.getD i_5.toNat (⟨0,0,false,false,false,false,⟨#[]⟩,0⟩:SThing)).fKind == (b_3.fThings.getD i_5.toNat (⟨0,0,false,false,false,false,⟨#[]⟩,0⟩:SThing)).fKind) && (((a_2.fThings.getD i_5.toNat (⟨0,0,false,false,false,false,⟨#[]⟩,0⟩:SThing)).fHidden == (b_3.fThings.getD i_5.toNat (⟨0,0,false,false,false,false,⟨#[]⟩,0⟩:SThing)).fHidden) && (((a_2.fThings.getD i_5.toNat (⟨0,0,false,false,false,false,⟨#[]⟩,0⟩:SThing)).fFixed == (b_3.fThings.getD i_5.toNat (⟨0,0,false,false,false,false,⟨#[]⟩,0⟩:SThing)).fFixed) && (((a_2.fThings.getD i_5.toNat (⟨0,0,false,false,false,false,⟨#[]⟩,0⟩:SThing)).fSigns == (b_3.fThings.getD i_5.toNat (⟨0,0,false,false,false,false,⟨#[]⟩,0⟩:SThing)).fSigns) && (((a_2.fThings.getD i_5.toNat (⟨0,0,false,false,false,false,⟨#[]⟩,0⟩:SThing)).fWraps == (b_3.fThings.getD i_5.toNat (⟨0,0,false,false,false,false,⟨#[]⟩,0⟩:SThing)).fWraps) && (((ByteArray.toList (a_2.fThings.getD i_5.toNat (⟨0,0,false,false,false,false,⟨#[]⟩,0⟩:SThing)).fValue) == (ByteArray.toList (b_3.fThings.getD i_5.toNat (⟨0,0,false,false,false,false,⟨#[]⟩,0⟩:SThing)).fValue)) && (((a_2.fThings.getD i_5.toNat (⟨0,0,false,false,false,false,⟨#[]⟩,0⟩:SThing)).fNext == (b_3.fThings.getD i_5.toNat (⟨0,0,false,false,false,false,⟨#[]⟩,0⟩:SThing)).fNext) && true))))))))) then
  some false
  else
  k (.c0 (w64 (i_5+1)) a_2 b_3)
  else none
  else none
 else
  some true
noncomputable def Eu:Nat→Du→Option Bool
 | 0,_=>none
 | m+1,s=>H8 (Eu m) s
noncomputable def Gu:HAH:=IAH (Eu gas)
theorem OAb:Tells ctx PP 51 cv58 cv6 (fun a=>Gu a.1 a.2):=
 have b:CutIs ctx PP 51 Tryz.f51 [] [] cv6 VAQ (H8):=fun _ s=>by cases s <;> kernel_rfl
 have e:EntryIs ctx PP 51 [] [] cv58 cv6 VAQ (fun k a=>IAH k a.1 a.2):=fun _ a=>by kernel_rfl
 fn_ok hl_nil Tryz.func51 (fun s s' h=>by cases s;cases s';(repeat cases ‹SBook›);cases h;rfl) (fun _=>rfl) (fun _ _=>rfl) b e gas
noncomputable def PAb {γ:Type} (F:HAH):Hd ctx γ:=hdl cv58.dec (fun a=>F a.1 a.2) cv6.enc
abbrev I8:=ByteArray→Option Bool
noncomputable def JAH (z0:PZ) (s_0:ByteArray):Option Bool:=
 (z0 (s_0.size:Int) 1 8).bind fun r0=>
 some r0
noncomputable def Wi:I8:=JAH AY
theorem QAb:Tells ctx PP 116 cv3 cv6 (fun a=>Wi a):=fn_ok0 (hc Ie hl_nil) Tryz.func116 ((fun z0 a=>by kernel_rfl:∀ z0,EntryIs0 ctx PP 116 [] [(50,Na z0)] cv3 cv6 fun a=>JAH z0 a) AY)
noncomputable def WAQ {γ:Type} (F:I8):Hd ctx γ:=hdl cv3.dec (fun a=>F a) cv6.enc
abbrev KAH:=SDisk→Option Bool
inductive Hu where
 | c0 (i_3:Int) (d_1:SDisk)
noncomputable def XAQ:Hu→LI
 | .c0 i_3 d_1=>(tdo Tryz.f49 464,[(1,[.one (.ptr 64 0)]),(3,[.one (.int .i64 i_3)])],[(64,.var [.rsl 155 d_1.fFiles])])
noncomputable def LAH (z0:I8) (z1:PZ) (k:Hu→Option Bool) (d_0:SDisk):Option Bool:=
 bif (decide ((d_0.fFiles.length:Int) > 30)) then
 some false
 else
 k (.c0 0 d_0)
noncomputable def J8 (z0:I8) (z1:PZ) (k:Hu→Option Bool):Hu→Option Bool
 | .c0 i_3 d_1=>
 bif (decide (i_3<(d_1.fFiles.length:Int))) then
  bif ((decide (0≤i_3)) && (decide (i_3<(d_1.fFiles.length:Int)))) then
  (z0 (d_1.fFiles.getD i_3.toNat (⟨⟨#[]⟩,⟨#[]⟩,0⟩:SFile)).fName).bind fun r0=>
  bif (!r0) then
  some false
  else
  bif (decide (((d_1.fFiles.getD i_3.toNat (⟨⟨#[]⟩,⟨#[]⟩,0⟩:SFile)).fText.size:Int) > 20000)) then
   some false
  else
   (z1 (d_1.fFiles.getD i_3.toNat (⟨⟨#[]⟩,⟨#[]⟩,0⟩:SFile)).fKept 0 ((d_1.fFiles.getD i_3.toNat (⟨⟨#[]⟩,⟨#[]⟩,0⟩:SFile)).fText.size:Int)).bind fun r1=>
   bif (!r1) then
   some false
   else
   bif (decide (i_3 > 0)) then
    bif ((decide (0≤(w64 (i_3 - 1)))) && (decide ((w64 (i_3 - 1))<(d_1.fFiles.length:Int)))) then
    bif (!(Op.bytesLess (ByteArray.toList (d_1.fFiles.getD (w64 (i_3 - 1)).toNat (⟨⟨#[]⟩,⟨#[]⟩,0⟩:SFile)).fName) (ByteArray.toList (d_1.fFiles.getD i_3.toNat (⟨⟨#[]⟩,⟨#[]⟩,0⟩:SFile)).fName))) then
    some false
    else
    k (.c0 (w64 (i_3+1)) d_1)
    else none
   else
    k (.c0 (w64 (i_3+1)) d_1)
  else none
 else
  some true
noncomputable def Iu:Nat→Hu→Option Bool
 | 0,_=>none
 | m+1,s=>J8 Wi AY (Iu m) s
noncomputable def Ju:KAH:=LAH Wi AY (Iu gas)
theorem RAb:Tells ctx PP 49 cv35 cv6 (fun a=>Ju a):=
 have b:∀ z0 z1,CutIs ctx PP 49 Tryz.f49 [] [(116,WAQ z0),(50,Na z1)] cv6 XAQ (J8 z0 z1):=fun z0 z1 _ s=>by cases s <;> kernel_rfl
 have e:∀ z0 z1,EntryIs ctx PP 49 [] [(116,WAQ z0),(50,Na z1)] cv35 cv6 XAQ (fun k a=>LAH z0 z1 k a):=fun z0 z1 _ a=>by kernel_rfl
 fn_ok (hc QAb (hc Ie hl_nil)) Tryz.func49 (fun s s' h=>by cases s;cases s';(repeat cases ‹SDisk›);cases h;rfl) (fun _=>rfl) (fun _ _=>rfl) (b Wi AY) (e Wi AY) gas
noncomputable def SAb {γ:Type} (F:KAH):Hd ctx γ:=hdl cv35.dec (fun a=>F a) cv6.enc
abbrev L8:=SDisk→ByteArray→Option Int
inductive Ku where
 | c0 (name_1:ByteArray) (i_5:Int) (d_2:SDisk)
noncomputable def YAQ:Ku→LI
 | .c0 name_1 i_5 d_2=>(tdo Tryz.f119 208,[(1,[.one (.str name_1)]),(2,[.one (.ptr 128 0)]),(5,[.one (.int .i64 i_5)])],[(128,.var [.rsl 155 d_2.fFiles])])
noncomputable def MAH (k:Ku→Option Int) (d_0:SDisk) (name_1:ByteArray):Option Int:=
 k (.c0 name_1 0 d_0)
noncomputable def N8 (k:Ku→Option Int):Ku→Option Int
 | .c0 name_1 i_5 d_2=>
 bif (decide (i_5<(d_2.fFiles.length:Int))) then
  bif ((decide (0≤i_5)) && (decide (i_5<(d_2.fFiles.length:Int)))) then
  bif ((ByteArray.toList (d_2.fFiles.getD i_5.toNat (⟨⟨#[]⟩,⟨#[]⟩,0⟩:SFile)).fName) == (ByteArray.toList name_1)) then
  some i_5
  else
  k (.c0 name_1 (w64 (i_5+1)) d_2)
  else none
 else
  some (-(1:Int))
noncomputable def Lu:Nat→Ku→Option Int
 | 0,_=>none
 | m+1,s=>N8 (Lu m) s
noncomputable def Xi:L8:=MAH (Lu gas)
theorem ZAQ:Tells ctx PP 119 cv36 cv15 (fun a=>Xi a.1 a.2):=
 have b:CutIs ctx PP 119 Tryz.f119 [] [] cv15 YAQ (N8):=fun _ s=>by cases s <;> kernel_rfl
 have e:EntryIs ctx PP 119 [] [] cv36 cv15 YAQ (fun k a=>MAH k a.1 a.2):=fun _ a=>by kernel_rfl
 fn_ok hl_nil Tryz.func119 (fun s s' h=>by cases s;cases s';(repeat cases ‹SDisk›);cases h;rfl) (fun _=>rfl) (fun _ _=>rfl) b e gas
noncomputable def AAR {γ:Type} (F:L8):Hd ctx γ:=hdl cv36.dec (fun a=>F a.1 a.2) cv15.enc
abbrev NAH:=SDisk→ByteArray→Option (ByteArray×Bool)
noncomputable def OAH (z0:L8) (d_0:SDisk) (name_1:ByteArray):Option (ByteArray×Bool):=
 (z0 d_0 name_1).bind fun r0=>
 bif (decide (r0<0)) then
 some (⟨#[]⟩,false)
 else
 bif ((decide (0≤r0)) && (decide (r0<(d_0.fFiles.length:Int)))) then
 some ((d_0.fFiles.getD r0.toNat (⟨⟨#[]⟩,⟨#[]⟩,0⟩:SFile)).fText,true)
 else none
noncomputable def Nu:NAH:=OAH Xi
theorem TAb:Tells ctx PP 117 cv36 cv18 (fun a=>Nu a.1 a.2):=fn_ok0 (hc ZAQ hl_nil) Tryz.func117 ((fun z0 a=>by kernel_rfl:∀ z0,EntryIs0 ctx PP 117 [] [(119,AAR z0)] cv36 cv18 fun a=>OAH z0 a.1 a.2) Xi)
noncomputable def UAb {γ:Type} (F:NAH):Hd ctx γ:=hdl cv36.dec (fun a=>F a.1 a.2) cv18.enc
abbrev Ou:=ByteArray→Int→Option (Int×Int×Bool)
inductive Qu where
 | c0 (text_0:ByteArray) (at_1:Int) (n_7:Int) (scale_8:Int) (i_9:Int)
noncomputable def CAR:Qu→LI
 | .c0 text_0 at_1 n_7 scale_8 i_9=>(tdo Tryz.f196 2000,[(0,[.one (.str text_0)]),(1,[.one (.int .i64 at_1)]),(7,[.one (.int .i64 n_7)]),(8,[.one (.int .i64 scale_8)]),(9,[.one (.int .i64 i_9)])],[])
noncomputable def Ru (z0:PZ) (z1:Xb) (k:Qu→Option (Int×Int×Bool)) (text_0:ByteArray) (at_1:Int):Option (Int×Int×Bool):=
 (z0 at_1 0 (text_0.size:Int)).bind fun r0=>
 bif (!r0) then
 some (0,(0,false))
 else
 k (.c0 text_0 at_1 0 1 at_1)
noncomputable def O8 (z0:PZ) (z1:Xb) (k:Qu→Option (Int×Int×Bool)):Qu→Option (Int×Int×Bool)
 | .c0 text_0 at_1 n_7 scale_8 i_9=>
 bif (decide (i_9<(text_0.size:Int))) then
  bif (decide (i_9<(w64 (at_1+5)))) then
  bif ((decide (0≤i_9)) && (decide (i_9<(text_0.size:Int)))) then
  bif ((decide (0≤i_9)) && (decide (i_9<(text_0.size:Int)))) then
  bif (decide ((bt text_0 i_9)<128)) then
   bif (decide ((w64 (n_7+(w64 (((w64 (bt text_0 i_9)).tmod 128)*scale_8)))) > 1000000000)) then
   some (0,(0,false))
   else
   (z1 (w64 (n_7+(w64 (((w64 (bt text_0 i_9)).tmod 128)*scale_8))))).bind fun r0=>
   bif (((decide (0≤at_1)) && (decide (at_1≤(w64 (i_9+1))))) && (decide ((w64 (i_9+1))≤(text_0.size:Int)))) then
   bif (!((ByteArray.toList r0) == (ByteArray.toList (text_0.extract at_1.toNat (w64 (i_9+1)).toNat)))) then
    some (0,(0,false))
   else
    some ((w64 (n_7+(w64 (((w64 (bt text_0 i_9)).tmod 128)*scale_8)))),((w64 (i_9+1)),true))
   else none
  else
   k (.c0 text_0 at_1 (w64 (n_7+(w64 (((w64 (bt text_0 i_9)).tmod 128)*scale_8)))) (w64 (scale_8*128)) (w64 (i_9+1)))
  else none
  else none
  else
  some (0,(0,false))
 else
  some (0,(0,false))
noncomputable def Md:Nat→Qu→Option (Int×Int×Bool)
 | 0,_=>none
 | m+1,s=>O8 AY SY (Md m) s
noncomputable def UZ:Ou:=Ru AY SY (Md gas)
theorem DAR:Tells ctx PP 196 cv7 cv105 (fun a=>UZ a.1 a.2):=
 have b:∀ z0 z1,CutIs ctx PP 196 Tryz.f196 [] [(50,Na z0),(147,Je z1)] cv105 CAR (O8 z0 z1):=fun z0 z1 _ s=>by cases s <;> kernel_rfl
 have e:∀ z0 z1,EntryIs ctx PP 196 [] [(50,Na z0),(147,Je z1)] cv7 cv105 CAR (fun k a=>Ru z0 z1 k a.1 a.2):=fun z0 z1 _ a=>by kernel_rfl
 fn_ok (hc Ie (hc Ii hl_nil)) Tryz.func196 (fun s s' h=>by cases s;cases s';cases h;rfl) (fun _=>rfl) (fun _ _=>rfl) (b AY SY) (e AY SY) gas
noncomputable def PAH {γ:Type} (F:Ou):Hd ctx γ:=hdl cv7.dec (fun a=>F a.1 a.2) cv105.enc
abbrev QAH:=Int→ByteArray→Option Int
inductive Uu where
 | c0 (sum_0:Int) (text_1:ByteArray) (i_5:Int)
 | c1 (sum_0:Int) (text_1:ByteArray) (i_5:Int) (k_6:Int)
noncomputable def EAR:Uu→LI
 | .c0 sum_0 text_1 i_5=>(tdo Tryz.f206 208,[(0,[.one (.int .u32 sum_0)]),(1,[.one (.str text_1)]),(5,[.one (.int .i64 i_5)])],[])
 | .c1 sum_0 text_1 i_5 k_6=>(tdo Tryz.f206 26928,[(0,[.one (.int .u32 sum_0)]),(1,[.one (.str text_1)]),(5,[.one (.int .i64 i_5)]),(6,[.one (.int .i64 k_6)])],[])
noncomputable def RAH (k:Uu→Option Int) (sum_0:Int) (text_1:ByteArray):Option Int:=
 k (.c0 sum_0 text_1 0)
noncomputable def Em (k:Uu→Option Int):Uu→Option Int
 | .c0 sum_0 text_1 i_5=>
 bif (decide (i_5<(text_1.size:Int))) then
  bif ((decide (0≤i_5)) && (decide (i_5<(text_1.size:Int)))) then
  k (.c1 (w32 (((BitVec.toNat ((BitVec.ofInt (IntKind.bits IntKind.u32) sum_0) ^^^ (BitVec.ofInt (IntKind.bits IntKind.u32) (w32 (bt text_1 i_5))))):Nat):Int)) text_1 i_5 0)
  else none
 else
  some sum_0
 | .c1 sum_0 text_1 i_5 k_6=>
 bif (decide (k_6<8)) then
  bif ((sum_0.tmod 2) == 1) then
  k (.c1 (w32 (((BitVec.toNat ((BitVec.ofInt (IntKind.bits IntKind.u32) (w32 (sum_0.tdiv 2))) ^^^ (BitVec.ofInt (IntKind.bits IntKind.u32) 3558460437))):Nat):Int)) text_1 i_5 (w64 (k_6+1)))
  else
  k (.c1 (w32 (sum_0.tdiv 2)) text_1 i_5 (w64 (k_6+1)))
 else
  k (.c0 sum_0 text_1 (w64 (i_5+1)))
noncomputable def Ve:Nat→Uu→Option Int
 | 0,_=>none
 | m+1,s=>Em (Ve m) s
noncomputable def Vu:QAH:=RAH (Ve gas)
theorem VAb:Tells ctx PP 206 cv32 cv8 (fun a=>Vu a.1 a.2):=
 have b:CutIs ctx PP 206 Tryz.f206 [] [] cv8 EAR (Em):=fun _ s=>by cases s <;> kernel_rfl
 have e:EntryIs ctx PP 206 [] [] cv32 cv8 EAR (fun k a=>RAH k a.1 a.2):=fun _ a=>by kernel_rfl
 fn_ok hl_nil Tryz.func206 (fun s s' h=>by cases s <;> cases s' <;> first | (cases h;done) | (cases h;rfl) | exact (rg_ne h (by kernel_rfl)).elim) (fun _=>rfl) (fun _ _=>rfl) b e gas
noncomputable def WAb {γ:Type} (F:QAH):Hd ctx γ:=hdl cv32.dec (fun a=>F a.1 a.2) cv8.enc
abbrev SAH:=ByteArray→Option Int
noncomputable def TAH (z0:QAH) (text_0:ByteArray):Option Int:=
 (z0 4294967295 text_0).bind fun r0=>
 some r0
noncomputable def Wu:SAH:=TAH Vu
theorem XAb:Tells ctx PP 185 cv3 cv8 (fun a=>Wu a):=fn_ok0 (hc VAb hl_nil) Tryz.func185 ((fun z0 a=>by kernel_rfl:∀ z0,EntryIs0 ctx PP 185 [] [(206,WAb z0)] cv3 cv8 fun a=>TAH z0 a) Vu)
noncomputable def YAb {γ:Type} (F:SAH):Hd ctx γ:=hdl cv3.dec (fun a=>F a) cv8.enc
abbrev UAH:=Int→Option ByteArray
noncomputable def VAH (x_0:Int):Option ByteArray:=
 some (ofBytes [(w8 (Int.fdiv x_0 (2 ^ (Min.min (24:Int).toNat (IntKind.bits IntKind.u32))))),(w8 (Int.fdiv x_0 (2 ^ (Min.min (16:Int).toNat (IntKind.bits IntKind.u32))))),(w8 (Int.fdiv x_0 (2 ^ (Min.min (8:Int).toNat (IntKind.bits IntKind.u32))))),(w8 x_0)])
noncomputable def Xu:UAH:=VAH
theorem ZAb:Tells ctx PP 184 cv8 cv3 (fun a=>Xu a):=fn_ok0 hl_nil Tryz.func184 (fun a=>by kernel_rfl:EntryIs0 ctx PP 184 [] [] cv8 cv3 fun a=>VAH a)
noncomputable def AAc {γ:Type} (F:UAH):Hd ctx γ:=hdl cv8.dec (fun a=>F a) cv3.enc
abbrev Gm:=ByteArray→Option (ByteArray×Bool)
noncomputable def WAH (z0:PZ) (z1:Xb) (z2:SAH) (z3:UAH) (text_0:ByteArray):Option (ByteArray×Bool):=
 (z0 (text_0.size:Int) 1 9000).bind fun r0=>
 bif (!r0) then
 some (⟨#[]⟩,false)
 else
 (z1 (text_0.size:Int)).bind fun r1=>
 (z2 text_0).bind fun r2=>
 (z3 r2).bind fun r3=>
 bif (decide ((r1.size+r3.size)≤9223372036854775807)) then
 bif (decide (((r1++r3).size+text_0.size)≤9223372036854775807)) then
 some (((r1++r3)++text_0),true)
 else none
 else none
noncomputable def Yb:Gm:=WAH AY SY Wu Xu
theorem GAR:Tells ctx PP 150 cv3 cv18 (fun a=>Yb a):=fn_ok0 (hc Ie (hc Ii (hc XAb (hc ZAb hl_nil)))) Tryz.func150 ((fun z0 z1 z2 z3 a=>by kernel_rfl:∀ z0 z1 z2 z3,EntryIs0 ctx PP 150 [] [(50,Na z0),(147,Je z1),(185,YAb z2),(184,AAc z3)] cv3 cv18 fun a=>WAH z0 z1 z2 z3 a) AY SY Wu Xu)
noncomputable def P8 {γ:Type} (F:Gm):Hd ctx γ:=hdl cv3.dec (fun a=>F a) cv18.enc
abbrev Q8:=ByteArray→Option ((List ByteArray)×Int)
inductive Yu where
 | c0 (file_0:ByteArray) (at_5:Int) (out_4:(List ByteArray))
noncomputable def HAR:Yu→LI
 | .c0 file_0 at_5 out_4=>(tdo Tryz.f164 992,[(0,[.one (.str file_0)]),(4,[.one (.own 304)]),(5,[.one (.int .i64 at_5)])],[(304,.sl 9 out_4)])
noncomputable def XAH (z0:Ou) (z1:Gm) (k:Yu→Option ((List ByteArray)×Int)) (file_0:ByteArray):Option ((List ByteArray)×Int):=
 bif (decide ((file_0.size:Int) > 20000)) then
 some ([],0)
 else
 k (.c0 file_0 0 [])
noncomputable def YAH (z0:Ou) (z1:Gm) (k:Yu→Option ((List ByteArray)×Int)):Yu→Option ((List ByteArray)×Int)
 | .c0 file_0 at_5 out_4=>
 bif (decide (at_5<(file_0.size:Int))) then
  (z0 file_0 at_5).bind fun r0=>
  bif (!r0.2.2) then
  some (out_4,at_5)
  else
  bif (decide (r0.1 > (w64 ((w64 ((file_0.size:Int) - r0.2.1)) - 4)))) then
   some (out_4,at_5)
  else
   bif (((decide (0≤(w64 (r0.2.1+4)))) && (decide ((w64 (r0.2.1+4))≤(w64 ((w64 (r0.2.1+4))+r0.1))))) && (decide ((w64 ((w64 (r0.2.1+4))+r0.1))≤(file_0.size:Int)))) then
   (z1 (file_0.extract (w64 (r0.2.1+4)).toNat (w64 ((w64 (r0.2.1+4))+r0.1)).toNat)).bind fun r1=>
   bif (!r1.2) then
   some (out_4,at_5)
   else
   bif (((decide (0≤at_5)) && (decide (at_5≤(w64 ((w64 (r0.2.1+4))+r0.1))))) && (decide ((w64 ((w64 (r0.2.1+4))+r0.1))≤(file_0.size:Int)))) then
   bif (!((ByteArray.toList r1.1) == (ByteArray.toList (file_0.extract at_5.toNat (w64 ((w64 (r0.2.1+4))+r0.1)).toNat)))) then
    some (out_4,at_5)
   else
    bif (decide (((out_4.length+1)*16)≤140737488355328)) then
    k (.c0 file_0 (w64 ((w64 (r0.2.1+4))+r0.1)) (out_4++[(file_0.extract (w64 (r0.2.1+4)).toNat (w64 ((w64 (r0.2.1+4))+r0.1)).toNat)]))
    else none
   else none
   else none
 else
  some (out_4,at_5)
noncomputable def U8:Nat→Yu→Option ((List ByteArray)×Int)
 | 0,_=>none
 | m+1,s=>YAH UZ Yb (U8 m) s
noncomputable def Yi:Q8:=XAH UZ Yb (U8 gas)
theorem BAc:Tells ctx PP 164 cv3 cv106 (fun a=>Yi a):=
 have b:∀ z0 z1,CutIs ctx PP 164 Tryz.f164 [] [(196,PAH z0),(150,P8 z1)] cv106 HAR (YAH z0 z1):=fun z0 z1 _ s=>by cases s <;> kernel_rfl
 have e:∀ z0 z1,EntryIs ctx PP 164 [] [(196,PAH z0),(150,P8 z1)] cv3 cv106 HAR (fun k a=>XAH z0 z1 k a):=fun z0 z1 _ a=>by kernel_rfl
 fn_ok (hc DAR (hc GAR hl_nil)) Tryz.func164 (fun s s' h=>by cases s;cases s';cases h;rfl) (fun _=>rfl) (fun _ _=>rfl) (b UZ Yb) (e UZ Yb) gas
noncomputable def IAR {γ:Type} (F:Q8):Hd ctx γ:=hdl cv3.dec (fun a=>F a) cv106.enc
abbrev ZAH:=ByteArray→Int→Option ByteArray
inductive Zu where
 | c0 (key_0:ByteArray) (x_1:Int) (i_6:Int) (out_5:(List Int))
noncomputable def JAR:Zu→LI
 | .c0 key_0 x_1 i_6 out_5=>(tdo Tryz.f216 976,[(0,[.one (.str key_0)]),(1,[.one (.int .u8 x_1)]),(5,[.one (.own 368)]),(6,[.one (.int .i64 i_6)])],[(368,.sl 5 out_5)])
noncomputable def AAI (z0:Ag) (k:Zu→Option ByteArray) (key_0:ByteArray) (x_1:Int):Option ByteArray:=
 bif (decide ((key_0.size:Int) > 64)) then
 (z0 key_0).bind fun r0=>
 k (.c0 r0 x_1 0 (List.replicate (64:Int).toNat (0:Int)))
 else
 k (.c0 key_0 x_1 0 (List.replicate (64:Int).toNat (0:Int)))
noncomputable def V8 (z0:Ag) (k:Zu→Option ByteArray):Zu→Option ByteArray
 | .c0 key_0 x_1 i_6 out_5=>
 bif (decide (i_6<64)) then
  bif (decide (i_6<(key_0.size:Int))) then
  bif ((decide (0≤i_6)) && (decide (i_6<(key_0.size:Int)))) then
  bif ((decide (0≤i_6)) && (decide (i_6<(out_5.length:Int)))) then
  bif ((decide (0≤i_6)) && (decide (i_6<((out_5.set i_6.toNat (bt key_0 i_6)).length:Int)))) then
  bif ((decide (0≤i_6)) && (decide (i_6<((out_5.set i_6.toNat (bt key_0 i_6)).length:Int)))) then
  k (.c0 key_0 x_1 (w64 (i_6+1)) ((out_5.set i_6.toNat (bt key_0 i_6)).set i_6.toNat (w8 (((BitVec.toNat ((BitVec.ofInt (IntKind.bits IntKind.u8) ((out_5.set i_6.toNat (bt key_0 i_6)).getD i_6.toNat 0)) ^^^ (BitVec.ofInt (IntKind.bits IntKind.u8) x_1))):Nat):Int))))
  else none
  else none
  else none
  else none
  else
  bif ((decide (0≤i_6)) && (decide (i_6<(out_5.length:Int)))) then
  bif ((decide (0≤i_6)) && (decide (i_6<(out_5.length:Int)))) then
  k (.c0 key_0 x_1 (w64 (i_6+1)) (out_5.set i_6.toNat (w8 (((BitVec.toNat ((BitVec.ofInt (IntKind.bits IntKind.u8) (out_5.getD i_6.toNat 0)) ^^^ (BitVec.ofInt (IntKind.bits IntKind.u8) x_1))):Nat):Int))))
  else none
  else none
 else
  some (ofBytes out_5)
noncomputable def Jm:Nat→Zu→Option ByteArray
 | 0,_=>none
 | m+1,s=>V8 RZ (Jm m) s
noncomputable def Bv:ZAH:=AAI RZ (Jm gas)
theorem CAc:Tells ctx PP 216 cv28 cv3 (fun a=>Bv a.1 a.2):=
 have b:∀ z0,CutIs ctx PP 216 Tryz.f216 [] [(26,Xl z0)] cv3 JAR (V8 z0):=fun z0 _ s=>by cases s <;> kernel_rfl
 have e:∀ z0,EntryIs ctx PP 216 [] [(26,Xl z0)] cv28 cv3 JAR (fun k a=>AAI z0 k a.1 a.2):=fun z0 _ a=>by kernel_rfl
 fn_ok (hc H7 hl_nil) Tryz.func216 (fun s s' h=>by cases s;cases s';cases h;rfl) (fun _=>rfl) (fun _ _=>rfl) (b RZ) (e RZ) gas
noncomputable def DAc {γ:Type} (F:ZAH):Hd ctx γ:=hdl cv28.dec (fun a=>F a.1 a.2) cv3.enc
abbrev Dv:=ByteArray→ByteArray→Option ByteArray
noncomputable def BAI (z0:ZAH) (z1:Ag) (key_0:ByteArray) (s_1:ByteArray):Option ByteArray:=
 (z0 key_0 92).bind fun r0=>
 (z0 key_0 54).bind fun r1=>
 bif (decide ((r1.size+s_1.size)≤9223372036854775807)) then
 (z1 (r1++s_1)).bind fun r2=>
 bif (decide ((r0.size+r2.size)≤9223372036854775807)) then
 (z1 (r0++r2)).bind fun r3=>
 some r3
 else none
 else none
noncomputable def Xe:Dv:=BAI Bv RZ
theorem KAR:Tells ctx PP 205 cv29 cv3 (fun a=>Xe a.1 a.2):=fn_ok0 (hc CAc (hc H7 hl_nil)) Tryz.func205 ((fun z0 z1 a=>by kernel_rfl:∀ z0 z1,EntryIs0 ctx PP 205 [] [(216,DAc z0),(26,Xl z1)] cv29 cv3 fun a=>BAI z0 z1 a.1 a.2) Bv RZ)
noncomputable def CAI {γ:Type} (F:Dv):Hd ctx γ:=hdl cv29.dec (fun a=>F a.1 a.2) cv3.enc
abbrev DAI:=ByteArray→Int→Int→Option (ByteArray×Bool)
inductive Fv where
 | c0 (key_0:ByteArray) (num_1:Int) (n_2:Int) (i_9:Int) (out_8:(List Int))
noncomputable def LAR:Fv→LI
 | .c0 key_0 num_1 n_2 i_9 out_8=>(tdo Tryz.f181 976,[(0,[.one (.str key_0)]),(1,[.one (.int .i64 num_1)]),(2,[.one (.int .i64 n_2)]),(8,[.one (.own 560)]),(9,[.one (.int .i64 i_9)])],[(560,.sl 5 out_8)])
noncomputable def EAI (z0:PZ) (z1:Xb) (z2:Kt) (z3:Dv) (k:Fv→Option (ByteArray×Bool)) (key_0:ByteArray) (num_1:Int) (n_2:Int):Option (ByteArray×Bool):=
 (z0 num_1 0 1000000000).bind fun r0=>
 bif (!r0) then
 some (⟨#[]⟩,false)
 else
 (z0 n_2 0 8000).bind fun r1=>
 bif (!r1) then
  some (⟨#[]⟩,false)
 else
  k (.c0 key_0 num_1 n_2 0 [])
noncomputable def X8 (z0:PZ) (z1:Xb) (z2:Kt) (z3:Dv) (k:Fv→Option (ByteArray×Bool)):Fv→Option (ByteArray×Bool)
 | .c0 key_0 num_1 n_2 i_9 out_8=>
 bif (decide ((out_8.length:Int)<n_2)) then
  (z1 num_1).bind fun r0=>
  bif (decide (((⟨#[109]⟩:ByteArray).size+r0.size)≤9223372036854775807)) then
  (z2 i_9).bind fun r1=>
  bif (decide ((((⟨#[109]⟩:ByteArray)++r0).size+r1.size)≤9223372036854775807)) then
  (z3 key_0 (((⟨#[109]⟩:ByteArray)++r0)++r1)).bind fun r2=>
  bif (decide (r2.size≤9223372036854775807)) then
  bif (decide (((out_8.length+(bytesOf r2).length)*1)≤140737488355328)) then
  k (.c0 key_0 num_1 n_2 (w64 (i_9+1)) (out_8++(bytesOf r2)))
  else none
  else none
  else none
  else none
 else
  bif ((decide (0≤n_2)) && (decide (n_2≤(out_8.length:Int)))) then
  some ((ofBytes ((out_8.drop 0).take (n_2.toNat - 0))),true)
  else none
noncomputable def Gv:Nat→Fv→Option (ByteArray×Bool)
 | 0,_=>none
 | m+1,s=>X8 AY SY Oe Xe (Gv m) s
noncomputable def Jv:DAI:=EAI AY SY Oe Xe (Gv gas)
theorem EAc:Tells ctx PP 181 cv30 cv18 (fun a=>Jv a.1 a.2.1 a.2.2):=
 have b:∀ z0 z1 z2 z3,CutIs ctx PP 181 Tryz.f181 [] [(50,Na z0),(147,Je z1),(179,VAG z2),(205,CAI z3)] cv18 LAR (X8 z0 z1 z2 z3):=fun z0 z1 z2 z3 _ s=>by cases s <;> kernel_rfl
 have e:∀ z0 z1 z2 z3,EntryIs ctx PP 181 [] [(50,Na z0),(147,Je z1),(179,VAG z2),(205,CAI z3)] cv30 cv18 LAR (fun k a=>EAI z0 z1 z2 z3 k a.1 a.2.1 a.2.2):=fun z0 z1 z2 z3 _ a=>by kernel_rfl
 fn_ok (hc Ie (hc Ii (hc EAQ (hc KAR hl_nil)))) Tryz.func181 (fun s s' h=>by cases s;cases s';cases h;rfl) (fun _=>rfl) (fun _ _=>rfl) (b AY SY Oe Xe) (e AY SY Oe Xe) gas
noncomputable def FAc {γ:Type} (F:DAI):Hd ctx γ:=hdl cv30.dec (fun a=>F a.1 a.2.1 a.2.2) cv18.enc
abbrev FAI:=ByteArray→Int→ByteArray→Option ByteArray
noncomputable def GAI (z0:Xb) (z1:Dv) (key_0:ByteArray) (num_1:Int) (s_2:ByteArray):Option ByteArray:=
 (z0 num_1).bind fun r0=>
 bif (decide (((⟨#[116]⟩:ByteArray).size+r0.size)≤9223372036854775807)) then
 bif (decide ((((⟨#[116]⟩:ByteArray)++r0).size+s_2.size)≤9223372036854775807)) then
 (z1 key_0 (((⟨#[116]⟩:ByteArray)++r0)++s_2)).bind fun r1=>
 bif ((decide ((0:Int)≤(16:Int))) && (decide (16≤(r1.size:Int)))) then
 some (r1.extract 0 (16:Int).toNat)
 else none
 else none
 else none
noncomputable def Kv:FAI:=GAI SY Xe
theorem GAc:Tells ctx PP 183 cv31 cv3 (fun a=>Kv a.1 a.2.1 a.2.2):=fn_ok0 (hc Ii (hc KAR hl_nil)) Tryz.func183 ((fun z0 z1 a=>by kernel_rfl:∀ z0 z1,EntryIs0 ctx PP 183 [] [(147,Je z0),(205,CAI z1)] cv31 cv3 fun a=>GAI z0 z1 a.1 a.2.1 a.2.2) SY Xe)
noncomputable def HAc {γ:Type} (F:FAI):Hd ctx γ:=hdl cv31.dec (fun a=>F a.1 a.2.1 a.2.2) cv3.enc
abbrev HAI:=ByteArray→ByteArray→Option Bool
noncomputable def IAI (a_0:ByteArray) (b_1:ByteArray):Option Bool:=
 some ((ByteArray.toList a_0) == (ByteArray.toList b_1))
noncomputable def Y8:HAI:=IAI
theorem IAc:Tells ctx PP 197 cv29 cv6 (fun a=>Y8 a.1 a.2):=fn_ok0 hl_nil Tryz.func197 (fun a=>by kernel_rfl:EntryIs0 ctx PP 197 [] [] cv29 cv6 fun a=>IAI a.1 a.2)
noncomputable def JAc {γ:Type} (F:HAI):Hd ctx γ:=hdl cv29.dec (fun a=>F a.1 a.2) cv6.enc
abbrev JAI:=ByteArray→ByteArray→Option ByteArray
inductive Nv where
 | c0 (b_1:ByteArray) (i_6:Int) (out_5:(List Int))
noncomputable def MAR:Nv→LI
 | .c0 b_1 i_6 out_5=>(tdo Tryz.f182 464,[(1,[.one (.str b_1)]),(5,[.one (.own 368)]),(6,[.one (.int .i64 i_6)])],[(368,.sl 5 out_5)])
noncomputable def KAI (k:Nv→Option ByteArray) (a_0:ByteArray) (b_1:ByteArray):Option ByteArray:=
 bif (decide (a_0.size≤9223372036854775807)) then
 k (.c0 b_1 0 (bytesOf a_0))
 else none
noncomputable def Z8 (k:Nv→Option ByteArray):Nv→Option ByteArray
 | .c0 b_1 i_6 out_5=>
 bif (decide (i_6<(out_5.length:Int))) then
  bif ((decide (0≤i_6)) && (decide (i_6<(out_5.length:Int)))) then
  bif ((decide (0≤i_6)) && (decide (i_6<(b_1.size:Int)))) then
  bif ((decide (0≤i_6)) && (decide (i_6<(out_5.length:Int)))) then
  k (.c0 b_1 (w64 (i_6+1)) (out_5.set i_6.toNat (w8 (((BitVec.toNat ((BitVec.ofInt (IntKind.bits IntKind.u8) (out_5.getD i_6.toNat 0)) ^^^ (BitVec.ofInt (IntKind.bits IntKind.u8) (bt b_1 i_6)))):Nat):Int))))
  else none
  else none
  else none
 else
  some (ofBytes out_5)
noncomputable def Ov:Nat→Nv→Option ByteArray
 | 0,_=>none
 | m+1,s=>Z8 (Ov m) s
noncomputable def Pv:JAI:=KAI (Ov gas)
theorem KAc:Tells ctx PP 182 cv29 cv3 (fun a=>Pv a.1 a.2):=
 have b:CutIs ctx PP 182 Tryz.f182 [] [] cv3 MAR (Z8):=fun _ s=>by cases s <;> kernel_rfl
 have e:EntryIs ctx PP 182 [] [] cv29 cv3 MAR (fun k a=>KAI k a.1 a.2):=fun _ a=>by kernel_rfl
 fn_ok hl_nil Tryz.func182 (fun s s' h=>by cases s;cases s';cases h;rfl) (fun _=>rfl) (fun _ _=>rfl) b e gas
noncomputable def LAc {γ:Type} (F:JAI):Hd ctx γ:=hdl cv29.dec (fun a=>F a.1 a.2) cv3.enc
abbrev C9:=ByteArray→Int→ByteArray→Option (ByteArray×Bool)
noncomputable def LAI (z0:DAI) (z1:FAI) (z2:HAI) (z3:JAI) (key_0:ByteArray) (num_1:Int) (text_2:ByteArray):Option (ByteArray×Bool):=
 bif (decide ((text_2.size:Int)<16)) then
 some (⟨#[]⟩,false)
 else
 bif ((decide (0≤(w64 ((text_2.size:Int) - 16)))) && (decide ((w64 ((text_2.size:Int) - 16))≤(text_2.size:Int)))) then
 (z0 key_0 num_1 ((text_2.extract 0 (w64 ((text_2.size:Int) - 16)).toNat).size:Int)).bind fun r0=>
 bif (!r0.2) then
  some (⟨#[]⟩,false)
 else
  (z1 key_0 num_1 (text_2.extract 0 (w64 ((text_2.size:Int) - 16)).toNat)).bind fun r1=>
  bif ((decide (0≤((text_2.extract 0 (w64 ((text_2.size:Int) - 16)).toNat).size:Int))) && (decide (((text_2.extract 0 (w64 ((text_2.size:Int) - 16)).toNat).size:Int)≤(text_2.size:Int)))) then
  (z2 r1 (text_2.extract ((text_2.extract 0 (w64 ((text_2.size:Int) - 16)).toNat).size:Int).toNat text_2.size)).bind fun r2=>
  bif (!r2) then
  some (⟨#[]⟩,false)
  else
  (z3 (text_2.extract 0 (w64 ((text_2.size:Int) - 16)).toNat) r0.1).bind fun r3=>
  some (r3,true)
  else none
 else none
noncomputable def Zi:C9:=LAI Jv Kv Y8 Pv
theorem MAc:Tells ctx PP 165 cv31 cv18 (fun a=>Zi a.1 a.2.1 a.2.2):=fn_ok0 (hc EAc (hc GAc (hc IAc (hc KAc hl_nil)))) Tryz.func165 ((fun z0 z1 z2 z3 a=>by kernel_rfl:∀ z0 z1 z2 z3,EntryIs0 ctx PP 165 [] [(181,FAc z0),(183,HAc z1),(197,JAc z2),(182,LAc z3)] cv31 cv18 fun a=>LAI z0 z1 z2 z3 a.1 a.2.1 a.2.2) Jv Kv Y8 Pv)
noncomputable def NAR {γ:Type} (F:C9):Hd ctx γ:=hdl cv31.dec (fun a=>F a.1 a.2.1 a.2.2) cv18.enc
abbrev Qv:=SL19Cur→Int→Option (ByteArray×SL19Cur)
noncomputable def D9 (c_0:SL19Cur) (n_1:Int):Option (ByteArray×SL19Cur):=
 bif c_0.fBad then
 some (⟨#[]⟩,⟨c_0.fText,c_0.fAt,true⟩)
 else
 bif (decide (n_1 > (w64 ((c_0.fText.size:Int) - c_0.fAt)))) then
  some (⟨#[]⟩,⟨c_0.fText,c_0.fAt,true⟩)
 else
  bif (((decide (0≤(w64 ((w64 (c_0.fAt+n_1)) - n_1)))) && (decide ((w64 ((w64 (c_0.fAt+n_1)) - n_1))≤(w64 (c_0.fAt+n_1))))) && (decide ((w64 (c_0.fAt+n_1))≤(c_0.fText.size:Int)))) then
  some ((c_0.fText.extract (w64 ((w64 (c_0.fAt+n_1)) - n_1)).toNat (w64 (c_0.fAt+n_1)).toNat),⟨c_0.fText,(w64 (c_0.fAt+n_1)),c_0.fBad⟩)
  else none
noncomputable def Ua:Qv:=D9
theorem MAI:Tells ctx PP 199 cv107 cv108 (fun a=>Ua a.1 a.2):=fn_ok0 hl_nil Tryz.func199 (fun a=>by kernel_rfl:EntryIs0 ctx PP 199 [0] [] cv107 cv108 fun a=>D9 a.1 a.2)
noncomputable def NAI {γ:Type} (F:Qv):Hd ctx γ:=hdl cv107.dec (fun a=>F a.1 a.2) cv108.enc
abbrev F9:=SL19Cur→Option (Int×SL19Cur)
noncomputable def G9 (z0:Qv) (c_0:SL19Cur):Option (Int×SL19Cur):=
 (z0 c_0 1).bind fun r0=>
 bif r0.2.fBad then
 some (0,r0.2)
 else
 bif ((decide ((0:Int)≤(0:Int))) && (decide (0<(r0.1.size:Int)))) then
 some ((w64 (bt r0.1 0)),r0.2)
 else none
noncomputable def Va:F9:=G9 Ua
theorem OAR:Tells ctx PP 198 cv109 cv110 (fun a=>Va a):=fn_ok0 (hc MAI hl_nil) Tryz.func198 ((fun z0 a=>by kernel_rfl:∀ z0,EntryIs0 ctx PP 198 [0] [(199,NAI z0)] cv109 cv110 fun a=>G9 z0 a) Ua)
noncomputable def PAR {γ:Type} (F:F9):Hd ctx γ:=hdl cv109.dec (fun a=>F a) cv110.enc
abbrev Sv:=SL19Cur→Option (Int×SL19Cur)
noncomputable def H9 (z0:Ou) (c_0:SL19Cur):Option (Int×SL19Cur):=
 (z0 c_0.fText c_0.fAt).bind fun r0=>
 bif c_0.fBad then
 some (0,⟨c_0.fText,c_0.fAt,true⟩)
 else
 bif (!r0.2.2) then
  some (0,⟨c_0.fText,c_0.fAt,true⟩)
 else
  some (r0.1,⟨c_0.fText,r0.2.1,c_0.fBad⟩)
noncomputable def Zb:Sv:=H9 UZ
theorem OAI:Tells ctx PP 200 cv109 cv110 (fun a=>Zb a):=fn_ok0 (hc DAR hl_nil) Tryz.func200 ((fun z0 a=>by kernel_rfl:∀ z0,EntryIs0 ctx PP 200 [0] [(196,PAH z0)] cv109 cv110 fun a=>H9 z0 a) UZ)
noncomputable def PAI {γ:Type} (F:Sv):Hd ctx γ:=hdl cv109.dec (fun a=>F a) cv110.enc
abbrev QAI:=SL19Cur→Option (ByteArray×SL19Cur)
noncomputable def I9 (z0:Sv) (z1:Qv) (c_0:SL19Cur):Option (ByteArray×SL19Cur):=
 (z0 c_0).bind fun r0=>
 (z1 r0.2 r0.1).bind fun r1=>
 some (r1.1,r1.2)
noncomputable def Aj:QAI:=I9 Zb Ua
theorem NAc:Tells ctx PP 213 cv109 cv108 (fun a=>Aj a):=fn_ok0 (hc OAI (hc MAI hl_nil)) Tryz.func213 ((fun z0 z1 a=>by kernel_rfl:∀ z0 z1,EntryIs0 ctx PP 213 [0] [(200,PAI z0),(199,NAI z1)] cv109 cv108 fun a=>I9 z0 z1 a) Zb Ua)
noncomputable def OAc {γ:Type} (F:QAI):Hd ctx γ:=hdl cv109.dec (fun a=>F a) cv108.enc
abbrev RAI:=ByteArray→Option (SThing×Bool)
noncomputable def J9 (z0:Sv) (z1:F9) (z2:QAI) (z3:Q7) (text_0:ByteArray):Option (SThing×Bool):=
 (z0 ⟨text_0,0,false⟩).bind fun r0=>
 (z1 r0.2).bind fun r1=>
 (z1 r1.2).bind fun r2=>
 (z2 r2.2).bind fun r3=>
 (z0 r3.2).bind fun r4=>
 (z3 ⟨r0.1,r1.1,((r2.1.tmod 2) == 1),(((w64 (r2.1.tdiv 2)).tmod 2) == 1),(((w64 (r2.1.tdiv 4)).tmod 2) == 1),(((w64 (r2.1.tdiv 8)).tmod 2) == 1),r3.1,r4.1⟩).bind fun r5=>
 bif r4.2.fBad then
 some (⟨0,0,false,false,false,false,⟨#[]⟩,0⟩,false)
 else
 bif (!r5.2) then
  some (⟨0,0,false,false,false,false,⟨#[]⟩,0⟩,false)
 else
  bif (!((ByteArray.toList r5.1) == (ByteArray.toList text_0))) then
  some (⟨0,0,false,false,false,false,⟨#[]⟩,0⟩,false)
  else
  some (⟨r0.1,r1.1,((r2.1.tmod 2) == 1),(((w64 (r2.1.tdiv 2)).tmod 2) == 1),(((w64 (r2.1.tdiv 4)).tmod 2) == 1),(((w64 (r2.1.tdiv 8)).tmod 2) == 1),r3.1,r4.1⟩,true)
noncomputable def Bg:RAI:=J9 Zb Va Aj Ji
theorem PAc:Tells ctx PP 201 cv3 cv22 (fun a=>Bg a):=fn_ok0 (hc OAI (hc OAR (hc NAc (hc FAQ hl_nil)))) Tryz.func201 ((fun z0 z1 z2 z3 a=>by kernel_rfl:∀ z0 z1 z2 z3,EntryIs0 ctx PP 201 [] [(200,PAI z0),(198,PAR z1),(213,OAc z2),(148,GAQ z3)] cv3 cv22 fun a=>J9 z0 z1 z2 z3 a) Zb Va Aj Ji)
noncomputable def QAc {γ:Type} (F:RAI):Hd ctx γ:=hdl cv3.dec (fun a=>F a) cv22.enc
abbrev L9:=ByteArray→Option (SRec×Bool)
noncomputable def Bj (z0:F9) (z1:Qv) (z2:Sv) (z3:RAI) (z4:Rt) (text_0:ByteArray):Option (SRec×Bool):=
 (z0 ⟨text_0,0,false⟩).bind fun r0=>
 bif (r0.1 == 1) then
 (z1 r0.2 32).bind fun r1=>
 (z4 ⟨r0.1,r1.1,0,⟨0,0,false,false,false,false,⟨#[]⟩,0⟩⟩).bind fun r2=>
 bif r1.2.fBad then
  some (⟨0,⟨#[]⟩,0,⟨0,0,false,false,false,false,⟨#[]⟩,0⟩⟩,false)
 else
  bif (!r2.2) then
  some (⟨0,⟨#[]⟩,0,⟨0,0,false,false,false,false,⟨#[]⟩,0⟩⟩,false)
  else
  bif (!((ByteArray.toList r2.1) == (ByteArray.toList text_0))) then
   some (⟨0,⟨#[]⟩,0,⟨0,0,false,false,false,false,⟨#[]⟩,0⟩⟩,false)
  else
   some (⟨r0.1,r1.1,0,⟨0,0,false,false,false,false,⟨#[]⟩,0⟩⟩,true)
 else
 bif (r0.1 == 2) then
  bif (r0.1 == 2) then
  (z2 r0.2).bind fun r3=>
  (z4 ⟨r0.1,⟨#[]⟩,r3.1,⟨0,0,false,false,false,false,⟨#[]⟩,0⟩⟩).bind fun r4=>
  bif r3.2.fBad then
   some (⟨0,⟨#[]⟩,0,⟨0,0,false,false,false,false,⟨#[]⟩,0⟩⟩,false)
  else
   bif (!r4.2) then
   some (⟨0,⟨#[]⟩,0,⟨0,0,false,false,false,false,⟨#[]⟩,0⟩⟩,false)
   else
   bif (!((ByteArray.toList r4.1) == (ByteArray.toList text_0))) then
    some (⟨0,⟨#[]⟩,0,⟨0,0,false,false,false,false,⟨#[]⟩,0⟩⟩,false)
   else
    some (⟨r0.1,⟨#[]⟩,r3.1,⟨0,0,false,false,false,false,⟨#[]⟩,0⟩⟩,true)
  else
  bif (r0.1 == 3) then
   bif ((decide ((0:Int)≤(1:Int))) && (decide (1≤(text_0.size:Int)))) then
   (z3 (text_0.extract (1:Int).toNat text_0.size)).bind fun r5=>
   (z4 ⟨r0.1,⟨#[]⟩,0,r5.1⟩).bind fun r6=>
   bif r0.2.fBad then
   some (⟨0,⟨#[]⟩,0,⟨0,0,false,false,false,false,⟨#[]⟩,0⟩⟩,false)
   else
   bif (!r6.2) then
    some (⟨0,⟨#[]⟩,0,⟨0,0,false,false,false,false,⟨#[]⟩,0⟩⟩,false)
   else
    bif (!((ByteArray.toList r6.1) == (ByteArray.toList text_0))) then
    some (⟨0,⟨#[]⟩,0,⟨0,0,false,false,false,false,⟨#[]⟩,0⟩⟩,false)
    else
    some (⟨r0.1,⟨#[]⟩,0,r5.1⟩,true)
   else none
  else
   (z4 ⟨r0.1,⟨#[]⟩,0,⟨0,0,false,false,false,false,⟨#[]⟩,0⟩⟩).bind fun r7=>
   bif r0.2.fBad then
   some (⟨0,⟨#[]⟩,0,⟨0,0,false,false,false,false,⟨#[]⟩,0⟩⟩,false)
   else
   bif (!r7.2) then
    some (⟨0,⟨#[]⟩,0,⟨0,0,false,false,false,false,⟨#[]⟩,0⟩⟩,false)
   else
    bif (!((ByteArray.toList r7.1) == (ByteArray.toList text_0))) then
    some (⟨0,⟨#[]⟩,0,⟨0,0,false,false,false,false,⟨#[]⟩,0⟩⟩,false)
    else
    some (⟨r0.1,⟨#[]⟩,0,⟨0,0,false,false,false,false,⟨#[]⟩,0⟩⟩,true)
 else
  bif (r0.1 == 4) then
  (z2 r0.2).bind fun r8=>
  (z4 ⟨r0.1,⟨#[]⟩,r8.1,⟨0,0,false,false,false,false,⟨#[]⟩,0⟩⟩).bind fun r9=>
  bif r8.2.fBad then
   some (⟨0,⟨#[]⟩,0,⟨0,0,false,false,false,false,⟨#[]⟩,0⟩⟩,false)
  else
   bif (!r9.2) then
   some (⟨0,⟨#[]⟩,0,⟨0,0,false,false,false,false,⟨#[]⟩,0⟩⟩,false)
   else
   bif (!((ByteArray.toList r9.1) == (ByteArray.toList text_0))) then
    some (⟨0,⟨#[]⟩,0,⟨0,0,false,false,false,false,⟨#[]⟩,0⟩⟩,false)
   else
    some (⟨r0.1,⟨#[]⟩,r8.1,⟨0,0,false,false,false,false,⟨#[]⟩,0⟩⟩,true)
  else
  bif (r0.1 == 3) then
   bif ((decide ((0:Int)≤(1:Int))) && (decide (1≤(text_0.size:Int)))) then
   (z3 (text_0.extract (1:Int).toNat text_0.size)).bind fun r10=>
   (z4 ⟨r0.1,⟨#[]⟩,0,r10.1⟩).bind fun r11=>
   bif r0.2.fBad then
   some (⟨0,⟨#[]⟩,0,⟨0,0,false,false,false,false,⟨#[]⟩,0⟩⟩,false)
   else
   bif (!r11.2) then
    some (⟨0,⟨#[]⟩,0,⟨0,0,false,false,false,false,⟨#[]⟩,0⟩⟩,false)
   else
    bif (!((ByteArray.toList r11.1) == (ByteArray.toList text_0))) then
    some (⟨0,⟨#[]⟩,0,⟨0,0,false,false,false,false,⟨#[]⟩,0⟩⟩,false)
    else
    some (⟨r0.1,⟨#[]⟩,0,r10.1⟩,true)
   else none
  else
   (z4 ⟨r0.1,⟨#[]⟩,0,⟨0,0,false,false,false,false,⟨#[]⟩,0⟩⟩).bind fun r12=>
   bif r0.2.fBad then
   some (⟨0,⟨#[]⟩,0,⟨0,0,false,false,false,false,⟨#[]⟩,0⟩⟩,false)
   else
   bif (!r12.2) then
    some (⟨0,⟨#[]⟩,0,⟨0,0,false,false,false,false,⟨#[]⟩,0⟩⟩,false)
   else
    bif (!((ByteArray.toList r12.1) == (ByteArray.toList text_0))) then
    some (⟨0,⟨#[]⟩,0,⟨0,0,false,false,false,false,⟨#[]⟩,0⟩⟩,false)
    else
    some (⟨r0.1,⟨#[]⟩,0,⟨0,0,false,false,false,false,⟨#[]⟩,0⟩⟩,true)
noncomputable def VZ:L9:=Bj Va Ua Zb Bg Qe
theorem RAc:Tells ctx PP 166 cv3 cv111 (fun a=>VZ a):=fn_ok0 (hc OAR (hc MAI (hc OAI (hc PAc (hc HAQ hl_nil))))) Tryz.func166 ((fun z0 z1 z2 z3 z4 a=>by kernel_rfl:∀ z0 z1 z2 z3 z4,EntryIs0 ctx PP 166 [] [(198,PAR z0),(199,NAI z1),(200,PAI z2),(201,QAc z3),(92,BAH z4)] cv3 cv111 fun a=>Bj z0 z1 z2 z3 z4 a) Va Ua Zb Bg Qe)
noncomputable def QAR {γ:Type} (F:L9):Hd ctx γ:=hdl cv3.dec (fun a=>F a) cv111.enc
abbrev SAI:=ByteArray→ByteArray→Option ((List SRec)×Int)
inductive Tv where
 | c0 (key_0:ByteArray) (end_9:Int) (i_10:Int) (out_6:(List SRec)) (list_7:(List ByteArray))
noncomputable def RAR:Tv→LI
 | .c0 key_0 end_9 i_10 out_6 list_7=>(tdo Tryz.f118 2000,[(0,[.one (.str key_0)]),(6,[.one (.own 432)]),(7,[.one (.own 496)]),(9,[.one (.int .i64 end_9)]),(10,[.one (.int .i64 i_10)])],[(432,.sl 71 out_6),(496,.sl 9 list_7)])
noncomputable def TAI (z0:Q8) (z1:C9) (z2:L9) (z3:Gm) (k:Tv→Option ((List SRec)×Int)) (key_0:ByteArray) (file_1:ByteArray):Option ((List SRec)×Int):=
 (z0 file_1).bind fun r0=>
 k (.c0 key_0 0 0 [] r0.1)
noncomputable def N9 (z0:Q8) (z1:C9) (z2:L9) (z3:Gm) (k:Tv→Option ((List SRec)×Int)):Tv→Option ((List SRec)×Int)
 | .c0 key_0 end_9 i_10 out_6 list_7=>
 bif (decide (i_10<(list_7.length:Int))) then
  bif ((decide (0≤i_10)) && (decide (i_10<(list_7.length:Int)))) then
  (z1 key_0 (w64 (i_10+1)) (list_7.getD i_10.toNat (⟨#[]⟩:ByteArray))).bind fun r0=>
  (z2 r0.1).bind fun r1=>
  bif (!r0.2) then
  some (out_6,end_9)
  else
  bif (!r1.2) then
   some (out_6,end_9)
  else
   bif (decide (((out_6.length+1)*80)≤140737488355328)) then
   bif ((decide (0≤i_10)) && (decide (i_10<(list_7.length:Int)))) then
   (z3 (list_7.getD i_10.toNat (⟨#[]⟩:ByteArray))).bind fun r2=>
   k (.c0 key_0 (w64 (end_9+(r2.1.size:Int))) (w64 (i_10+1)) (out_6++[r1.1]) list_7)
   else none
   else none
  else none
 else
  some (out_6,end_9)
noncomputable def Wv:Nat→Tv→Option ((List SRec)×Int)
 | 0,_=>none
 | m+1,s=>N9 Yi Zi VZ Yb (Wv m) s
noncomputable def Xv:SAI:=TAI Yi Zi VZ Yb (Wv gas)
theorem SAc:Tells ctx PP 118 cv29 cv112 (fun a=>Xv a.1 a.2):=
 have b:∀ z0 z1 z2 z3,CutIs ctx PP 118 Tryz.f118 [] [(164,IAR z0),(165,NAR z1),(166,QAR z2),(150,P8 z3)] cv112 RAR (N9 z0 z1 z2 z3):=fun z0 z1 z2 z3 _ s=>by cases s <;> kernel_rfl
 have e:∀ z0 z1 z2 z3,EntryIs ctx PP 118 [] [(164,IAR z0),(165,NAR z1),(166,QAR z2),(150,P8 z3)] cv29 cv112 RAR (fun k a=>TAI z0 z1 z2 z3 k a.1 a.2):=fun z0 z1 z2 z3 _ a=>by kernel_rfl
 fn_ok (hc BAc (hc MAc (hc RAc (hc GAR hl_nil)))) Tryz.func118 (fun s s' h=>by cases s;cases s';cases h;rfl) (fun _=>rfl) (fun _ _=>rfl) (b Yi Zi VZ Yb) (e Yi Zi VZ Yb) gas
noncomputable def TAc {γ:Type} (F:SAI):Hd ctx γ:=hdl cv29.dec (fun a=>F a.1 a.2) cv112.enc
abbrev UAI:=ByteArray→SDisk→Option (SBook×(List SAct)×Bool)
noncomputable def VAI (z0:KAH) (z1:NAH) (z2:SAI) (z3:J7) (z4:F8) (z5:L8) (key_0:ByteArray) (d_1:SDisk):Option (SBook×(List SAct)×Bool):=
 (z0 d_1).bind fun r0=>
 bif (!r0) then
 some (⟨⟨#[]⟩,0,[],0,⟨#[]⟩,0⟩,([],false))
 else
 (z1 d_1 ⟨#[98,111,111,107]⟩).bind fun r1=>
 (z2 key_0 r1.1).bind fun r2=>
 z3.bind fun r3=>
 (z4 r3 r2.1).bind fun r4=>
 bif (!r4.2) then
  some (⟨⟨#[]⟩,0,[],0,⟨#[]⟩,0⟩,([],false))
 else
  (z5 d_1 ⟨#[98,111,111,107,43]⟩).bind fun r5=>
  bif (decide (r5≥0)) then
  bif (decide (r2.2<(r1.1.size:Int))) then
   bif ((decide (0≤r2.2)) && (decide (r2.2≤(r1.1.size:Int)))) then
   some (r4.1,((([]++[(⟨4,⟨#[98,111,111,107,43]⟩,⟨#[]⟩,⟨#[]⟩⟩:SAct)])++[(⟨1,⟨#[98,111,111,107,43]⟩,(r1.1.extract 0 r2.2.toNat),⟨#[]⟩⟩:SAct),(⟨2,⟨#[98,111,111,107,43]⟩,⟨#[]⟩,⟨#[]⟩⟩:SAct),(⟨3,⟨#[98,111,111,107,43]⟩,⟨#[]⟩,⟨#[98,111,111,107]⟩⟩:SAct)]),true))
   else none
  else
   some (r4.1,(([]++[(⟨4,⟨#[98,111,111,107,43]⟩,⟨#[]⟩,⟨#[]⟩⟩:SAct)]),true))
  else
  bif (decide (r2.2<(r1.1.size:Int))) then
   bif ((decide (0≤r2.2)) && (decide (r2.2≤(r1.1.size:Int)))) then
   some (r4.1,(([]++[(⟨1,⟨#[98,111,111,107,43]⟩,(r1.1.extract 0 r2.2.toNat),⟨#[]⟩⟩:SAct),(⟨2,⟨#[98,111,111,107,43]⟩,⟨#[]⟩,⟨#[]⟩⟩:SAct),(⟨3,⟨#[98,111,111,107,43]⟩,⟨#[]⟩,⟨#[98,111,111,107]⟩⟩:SAct)]),true))
   else none
  else
   some (r4.1,([],true))
noncomputable def Yv:UAI:=VAI Ju Nu Xv Gi Ui Xi
theorem UAc:Tells ctx PP 52 cv114 cv115 (fun a=>Yv a.1 a.2):=fn_ok0 (hc RAb (hc TAb (hc SAc (hc XAP (hc TAQ (hc ZAQ hl_nil)))))) Tryz.func52 ((fun z0 z1 z2 z3 z4 z5 a=>by kernel_rfl:∀ z0 z1 z2 z3 z4 z5,EntryIs0 ctx PP 52 [] [(49,SAb z0),(117,UAb z1),(118,TAc z2),(28,YAP z3),(69,UAQ z4),(119,AAR z5)] cv114 cv115 fun a=>VAI z0 z1 z2 z3 z4 z5 a.1 a.2) Ju Nu Xv Gi Ui Xi)
noncomputable def VAc {γ:Type} (F:UAI):Hd ctx γ:=hdl cv114.dec (fun a=>F a.1 a.2) cv115.enc
abbrev SAD:=SLife→Option Bool
noncomputable def WAI (z0:J7) (z1:F8) (z2:HAH) (z3:UAI) (l_0:SLife):Option Bool:=
 z0.bind fun r0=>
 (z1 r0 l_0.fDone).bind fun r1=>
 bif (!r1.2) then
 some false
 else
 bif l_0.fBox.fUp then
  (z2 r1.1 l_0.fBox.fBook).bind fun r2=>
  some r2
 else
  (z3 l_0.fBox.fKey l_0.fBox.fDisk).bind fun r3=>
  bif r3.2.2 then
  (z2 r1.1 r3.1).bind fun r4=>
  some r4
  else
  some false
noncomputable def Wp:SAD:=WAI Gi Ui Gu Yv
theorem HAY:Tells ctx PP 18 cv138 cv6 (fun a=>Wp a):=fn_ok0 (hc XAP (hc TAQ (hc OAb (hc UAc hl_nil)))) Tryz.func18 ((fun z0 z1 z2 z3 a=>by kernel_rfl:∀ z0 z1 z2 z3,EntryIs0 ctx PP 18 [] [(28,YAP z0),(69,UAQ z1),(51,PAb z2),(52,VAc z3)] cv138 cv6 fun a=>WAI z0 z1 z2 z3 a) Gi Ui Gu Yv)
noncomputable def NAY {γ:Type} (F:SAD):Hd ctx γ:=hdl cv138.dec (fun a=>F a) cv6.enc
abbrev XAI:=Option (List Int)
noncomputable def SAR  : Option (List Int):=
 some [1779033703,3144134277,1013904242,2773480762,1359893119,2600822924,528734635,1541459225]
noncomputable def O9:XAI:=SAR
theorem WAc:Tells ctx PP 103 cv0 cv45 (fun _=>O9):=fn_ok0 hl_nil Tryz.func103 (fun _=>by kernel_rfl:EntryIs0 ctx PP 103 [] [] cv0 cv45 fun _=>SAR)
noncomputable def XAc {γ:Type} (F:XAI):Hd ctx γ:=hdl cv0.dec (fun _=>F) cv45.enc
abbrev Zv:=Int→Option ByteArray
noncomputable def YAI (n_0:Int):Option ByteArray:=
 bif ((((decide (0≤n_0)) && (decide (n_0≤n_0))) && (decide (n_0≤9223372036854775807))) && (decide ((n_0.toNat*1)≤140737488355328))) then
 some (ofBytes (List.replicate n_0.toNat (0:Int)))
 else none
noncomputable def Qd:Zv:=YAI
theorem ZAI:Tells ctx PP 99 cv15 cv3 (fun a=>Qd a):=fn_ok0 hl_nil Tryz.func99 (fun a=>by kernel_rfl:EntryIs0 ctx PP 99 [] [] cv15 cv3 fun a=>YAI a)
noncomputable def AAJ {γ:Type} (F:Zv):Hd ctx γ:=hdl cv15.dec (fun a=>F a) cv3.enc
abbrev Fg:=Int→Option ByteArray
noncomputable def BAJ (n_0:Int):Option ByteArray:=
 some (ofBytes [(w8 (Int.fdiv n_0 (2 ^ (Min.min (24:Int).toNat (IntKind.bits IntKind.u32))))),(w8 (Int.fdiv n_0 (2 ^ (Min.min (16:Int).toNat (IntKind.bits IntKind.u32))))),(w8 (Int.fdiv n_0 (2 ^ (Min.min (8:Int).toNat (IntKind.bits IntKind.u32))))),(w8 n_0)])
noncomputable def WZ:Fg:=BAJ
theorem P9:Tells ctx PP 158 cv8 cv3 (fun a=>WZ a):=fn_ok0 hl_nil Tryz.func158 (fun a=>by kernel_rfl:EntryIs0 ctx PP 158 [] [] cv8 cv3 fun a=>BAJ a)
noncomputable def Lm {γ:Type} (F:Fg):Hd ctx γ:=hdl cv8.dec (fun a=>F a) cv3.enc
abbrev CAJ:=Int→Option ByteArray
noncomputable def DAJ (z0:Fg) (n_0:Int):Option ByteArray:=
 (z0 (w32 (Int.fdiv n_0 (2 ^ (Min.min (32:Int).toNat (IntKind.bits IntKind.i64)))))).bind fun r0=>
 (z0 (w32 n_0)).bind fun r1=>
 bif (decide ((r0.size+r1.size)≤9223372036854775807)) then
 some (r0++r1)
 else none
noncomputable def Aw:CAJ:=DAJ WZ
theorem YAc:Tells ctx PP 157 cv15 cv3 (fun a=>Aw a):=fn_ok0 (hc P9 hl_nil) Tryz.func157 ((fun z0 a=>by kernel_rfl:∀ z0,EntryIs0 ctx PP 157 [] [(158,Lm z0)] cv15 cv3 fun a=>DAJ z0 a) WZ)
noncomputable def ZAc {γ:Type} (F:CAJ):Hd ctx γ:=hdl cv15.dec (fun a=>F a) cv3.enc
abbrev EAJ:=Int→Option ByteArray
noncomputable def FAJ (z0:Zv) (z1:CAJ) (count_0:Int):Option ByteArray:=
 (z0 ((w64 (119 - (count_0.tmod 64))).tmod 64)).bind fun r0=>
 bif (decide (((⟨#[128]⟩:ByteArray).size+r0.size)≤9223372036854775807)) then
 (z1 (w64 (8*count_0))).bind fun r1=>
 bif (decide ((((⟨#[128]⟩:ByteArray)++r0).size+r1.size)≤9223372036854775807)) then
 some (((⟨#[128]⟩:ByteArray)++r0)++r1)
 else none
 else none
noncomputable def Dw:EAJ:=FAJ Qd Aw
theorem AAd:Tells ctx PP 104 cv15 cv3 (fun a=>Dw a):=fn_ok0 (hc ZAI (hc YAc hl_nil)) Tryz.func104 ((fun z0 z1 a=>by kernel_rfl:∀ z0 z1,EntryIs0 ctx PP 104 [] [(99,AAJ z0),(157,ZAc z1)] cv15 cv3 fun a=>FAJ z0 z1 a) Qd Aw)
noncomputable def BAd {γ:Type} (F:EAJ):Hd ctx γ:=hdl cv15.dec (fun a=>F a) cv3.enc
abbrev GAJ:=Int→Int→Option Int
noncomputable def HAJ (x_0:Int) (k_1:Int):Option Int:=
 bif (decide (0≤(wu64 (32 - (wu64 (((BitVec.toNat ((BitVec.ofInt (IntKind.bits IntKind.u64) (wu64 k_1)) &&& (BitVec.ofInt (IntKind.bits IntKind.u64) 31))):Nat):Int)))))) then
 some (w32 (((BitVec.toNat ((BitVec.ofInt (IntKind.bits IntKind.u32) (w32 (x_0*(2 ^ (Min.min (wu64 (((BitVec.toNat ((BitVec.ofInt (IntKind.bits IntKind.u64) (wu64 k_1)) &&& (BitVec.ofInt (IntKind.bits IntKind.u64) 31))):Nat):Int)).toNat (IntKind.bits IntKind.u32)))))) ||| (BitVec.ofInt (IntKind.bits IntKind.u32) (Int.fdiv x_0 (2 ^ (Min.min (wu64 (32 - (wu64 (((BitVec.toNat ((BitVec.ofInt (IntKind.bits IntKind.u64) (wu64 k_1)) &&& (BitVec.ofInt (IntKind.bits IntKind.u64) 31))):Nat):Int)))).toNat (IntKind.bits IntKind.u32))))))):Nat):Int))
 else none
noncomputable def Ew:GAJ:=HAJ
theorem CAd:Tells ctx PP 212 cv46 cv8 (fun a=>Ew a.1 a.2):=fn_ok0 hl_nil Tryz.func212 (fun a=>by kernel_rfl:EntryIs0 ctx PP 212 [] [] cv46 cv8 fun a=>HAJ a.1 a.2)
noncomputable def DAd {γ:Type} (F:GAJ):Hd ctx γ:=hdl cv46.dec (fun a=>F a.1 a.2) cv8.enc
abbrev Om:=Int→Int→Option Int
noncomputable def IAJ (z0:GAJ) (x_0:Int) (n_1:Int):Option Int:=
 (z0 x_0 (w64 (0 - n_1))).bind fun r0=>
 some r0
noncomputable def QY:Om:=IAJ Ew
theorem TAR:Tells ctx PP 195 cv46 cv8 (fun a=>QY a.1 a.2):=fn_ok0 (hc CAd hl_nil) Tryz.func195 ((fun z0 a=>by kernel_rfl:∀ z0,EntryIs0 ctx PP 195 [] [(212,DAd z0)] cv46 cv8 fun a=>IAJ z0 a.1 a.2) Ew)
noncomputable def Q9 {γ:Type} (F:Om):Hd ctx γ:=hdl cv46.dec (fun a=>F a.1 a.2) cv8.enc
abbrev S9:=ByteArray→Option (List Int)
inductive Gw where
 | c0 (block_0:ByteArray) (v_11:Int) (v_2r0:(List Int)) (w_3r0:(List Int))
 | c1 (block_0:ByteArray) (i_4:Int) (v_11:Int) (v_14:Int) (v_2r0:(List Int)) (w_3r0:(List Int))
 | c2 (t_6:Int) (v_2r0:(List Int)) (w_3r0:(List Int))
noncomputable def UAR:Gw→LI
 | .c0 block_0 v_11 v_2r0 w_3r0=>(tdo Tryz.f194 232,[(0,[.one (.str block_0)]),(2,[.one (.ptr 128 0)]),(3,[.one (.ptr 192 0)]),(11,[.one (.int .i64 v_11)])],[(128,.ar 138 v_2r0),(192,.ar 138 w_3r0)])
 | .c1 block_0 i_4 v_11 v_14 v_2r0 w_3r0=>(tdo Tryz.f194 59800,[(0,[.one (.str block_0)]),(2,[.one (.ptr 128 0)]),(3,[.one (.ptr 192 0)]),(4,[.one (.int .i64 i_4)]),(11,[.one (.int .i64 v_11)]),(14,[.one (.int .i64 v_14)])],[(128,.ar 138 v_2r0),(192,.ar 138 w_3r0)])
 | .c2 t_6 v_2r0 w_3r0=>(tdo Tryz.f194 976,[(2,[.one (.ptr 128 0)]),(3,[.one (.ptr 192 0)]),(6,[.one (.int .i64 t_6)])],[(128,.ar 138 v_2r0),(192,.ar 138 w_3r0)])
noncomputable def JAJ (z0:Om) (k:Gw→Option (List Int)) (block_0:ByteArray):Option (List Int):=
 k (.c0 block_0 0 (List.replicate 64 (0:Int)) (List.replicate 64 (0:Int)))
noncomputable def Gg (z0:Om) (k:Gw→Option (List Int)):Gw→Option (List Int)
 | .c0 block_0 v_11 v_2r0 w_3r0=>
 bif (decide (v_11<16)) then
  k (.c1 block_0 v_11 v_11 0 v_2r0 w_3r0)
 else
  k (.c2 16 v_2r0 w_3r0)
 | .c1 block_0 i_4 v_11 v_14 v_2r0 w_3r0=>
 bif (decide (v_14<4)) then
  bif (Nat.beq 64 w_3r0.length) then
  bif ((decide (0≤i_4)) && (decide (i_4<(w_3r0.length:Int)))) then
  bif ((decide (0≤(w64 ((w64 (4*i_4))+v_14)))) && (decide ((w64 ((w64 (4*i_4))+v_14))<(block_0.size:Int)))) then
  bif (Nat.beq 64 w_3r0.length) then
  bif ((decide (0≤i_4)) && (decide (i_4<(w_3r0.length:Int)))) then
  k (.c1 block_0 i_4 v_11 (w64 (v_14+1)) v_2r0 (w_3r0.set i_4.toNat (w32 (((BitVec.toNat ((BitVec.ofInt (IntKind.bits IntKind.u32) (w32 ((w_3r0.getD i_4.toNat 0)*(2 ^ (Min.min (8:Int).toNat (IntKind.bits IntKind.u32)))))) ||| (BitVec.ofInt (IntKind.bits IntKind.u32) (w32 (bt block_0 (w64 ((w64 (4*i_4))+v_14))))))):Nat):Int))))
  else none
  else none
  else none
  else none
  else none
 else
  k (.c0 block_0 (w64 (v_11+1)) v_2r0 w_3r0)
 | .c2 t_6 v_2r0 w_3r0=>
 bif (decide (t_6<64)) then
  bif (Nat.beq 64 w_3r0.length) then
  bif ((decide (0≤(w64 (t_6 - 15)))) && (decide ((w64 (t_6 - 15))<(w_3r0.length:Int)))) then
  bif (Nat.beq 64 w_3r0.length) then
  bif ((decide (0≤(w64 (t_6 - 2)))) && (decide ((w64 (t_6 - 2))<(w_3r0.length:Int)))) then
  (z0 (w_3r0.getD (w64 (t_6 - 15)).toNat 0) 7).bind fun r0=>
  (z0 (w_3r0.getD (w64 (t_6 - 15)).toNat 0) 18).bind fun r1=>
  (z0 (w_3r0.getD (w64 (t_6 - 2)).toNat 0) 17).bind fun r2=>
  (z0 (w_3r0.getD (w64 (t_6 - 2)).toNat 0) 19).bind fun r3=>
  bif (Nat.beq 64 w_3r0.length) then
  bif ((decide (0≤(w64 (t_6 - 7)))) && (decide ((w64 (t_6 - 7))<(w_3r0.length:Int)))) then
  bif (Nat.beq 64 w_3r0.length) then
  bif ((decide (0≤(w64 (t_6 - 16)))) && (decide ((w64 (t_6 - 16))<(w_3r0.length:Int)))) then
  bif (Nat.beq 64 w_3r0.length) then
  bif ((decide (0≤t_6)) && (decide (t_6<(w_3r0.length:Int)))) then
  k (.c2 (w64 (t_6+1)) v_2r0 (w_3r0.set t_6.toNat (w32 ((w32 ((w32 ((w32 (((BitVec.toNat ((BitVec.ofInt (IntKind.bits IntKind.u32) (w32 (((BitVec.toNat ((BitVec.ofInt (IntKind.bits IntKind.u32) r2) ^^^ (BitVec.ofInt (IntKind.bits IntKind.u32) r3))):Nat):Int))) ^^^ (BitVec.ofInt (IntKind.bits IntKind.u32) (Int.fdiv (w_3r0.getD (w64 (t_6 - 2)).toNat 0) (2 ^ (Min.min (10:Int).toNat (IntKind.bits IntKind.u32))))))):Nat):Int))+(w_3r0.getD (w64 (t_6 - 7)).toNat 0)))+(w32 (((BitVec.toNat ((BitVec.ofInt (IntKind.bits IntKind.u32) (w32 (((BitVec.toNat ((BitVec.ofInt (IntKind.bits IntKind.u32) r0) ^^^ (BitVec.ofInt (IntKind.bits IntKind.u32) r1))):Nat):Int))) ^^^ (BitVec.ofInt (IntKind.bits IntKind.u32) (Int.fdiv (w_3r0.getD (w64 (t_6 - 15)).toNat 0) (2 ^ (Min.min (3:Int).toNat (IntKind.bits IntKind.u32))))))):Nat):Int))))+(w_3r0.getD (w64 (t_6 - 16)).toNat 0)))))
  else none
  else none
  else none
  else none
  else none
  else none
  else none
  else none
  else none
  else none
 else
  bif (Nat.beq 64 w_3r0.length) then
  bif ((Nat.beq w_3r0.length v_2r0.length) && (Nat.beq 64 w_3r0.length)) then
  bif ((Nat.beq 64 w_3r0.length) && true) then
  some w_3r0
  else none
  else none
  else none
noncomputable def Xa:Nat→Gw→Option (List Int)
 | 0,_=>none
 | m+1,s=>Gg QY (Xa m) s
noncomputable def Cj:S9:=JAJ QY (Xa gas)
theorem EAd:Tells ctx PP 194 cv3 cv45 (fun a=>Cj a):=
 have b:∀ z0,CutIs ctx PP 194 Tryz.f194 [] [(195,Q9 z0)] cv45 UAR (Gg z0):=fun z0 _ s=>by cases s <;> kernel_rfl
 have e:∀ z0,EntryIs ctx PP 194 [] [(195,Q9 z0)] cv3 cv45 UAR (fun k a=>JAJ z0 k a):=fun z0 _ a=>by kernel_rfl
 fn_ok (hc TAR hl_nil) Tryz.func194 (fun s s' h=>by cases s <;> cases s' <;> first | (cases h;done) | (cases h;rfl) | exact (rg_ne h (by kernel_rfl)).elim) (fun _=>rfl) (fun _ _=>rfl) (b QY) (e QY) gas
noncomputable def WAR {γ:Type} (F:S9):Hd ctx γ:=hdl cv3.dec (fun a=>F a) cv45.enc
abbrev U9:=(List Int)→ByteArray→Option (List Int)
inductive Hw where
 | c0 (a_6:Int) (b_7:Int) (c_8:Int) (d_9:Int) (e_10:Int) (f_11:Int) (g_12:Int) (h_13:Int) (v_37:Int) (state_2r0:(List Int)) (v_4r0:(List Int)) (w_5r0:(List Int))
 | c1 (v_109:Int) (state_2r0:(List Int)) (v_4r0:(List Int)) (out_17r0:(List Int))
noncomputable def XAR:Hw→LI
 | .c0 a_6 b_7 c_8 d_9 e_10 f_11 g_12 h_13 v_37 state_2r0 v_4r0 w_5r0=>(tdo Tryz.f156 488,[(2,[.one (.ptr 128 0)]),(4,[.one (.ptr 256 0)]),(5,[.one (.ptr 320 0)]),(6,[.one (.int .u32 a_6)]),(7,[.one (.int .u32 b_7)]),(8,[.one (.int .u32 c_8)]),(9,[.one (.int .u32 d_9)]),(10,[.one (.int .u32 e_10)]),(11,[.one (.int .u32 f_11)]),(12,[.one (.int .u32 g_12)]),(13,[.one (.int .u32 h_13)]),(37,[.one (.int .i64 v_37)])],[(128,.ar 138 state_2r0),(256,.ar 138 v_4r0),(320,.ar 138 w_5r0)])
 | .c1 v_109 state_2r0 v_4r0 out_17r0=>(tdo Tryz.f156 2024,[(2,[.one (.ptr 128 0)]),(4,[.one (.ptr 256 0)]),(17,[.one (.ptr 1088 0)]),(109,[.one (.int .i64 v_109)])],[(128,.ar 138 state_2r0),(256,.ar 138 v_4r0),(1088,.ar 138 out_17r0)])
noncomputable def KAJ (z0:S9) (z1:Om) (k:Hw→Option (List Int)) (state_0:(List Int)) (block_1:ByteArray):Option (List Int):=
 (z0 block_1).bind fun r0=>
 bif ((Nat.beq r0.length (List.replicate 64 (0:Int)).length) && (Nat.beq 64 r0.length)) then
 bif (Nat.beq 8 state_0.length) then
 bif ((decide ((0:Int)≤(0:Int))) && (decide (0<(state_0.length:Int)))) then
 bif (Nat.beq 8 state_0.length) then
 bif ((decide ((0:Int)≤(1:Int))) && (decide (1<(state_0.length:Int)))) then
 bif (Nat.beq 8 state_0.length) then
 bif ((decide ((0:Int)≤(2:Int))) && (decide (2<(state_0.length:Int)))) then
 bif (Nat.beq 8 state_0.length) then
 bif ((decide ((0:Int)≤(3:Int))) && (decide (3<(state_0.length:Int)))) then
 bif (Nat.beq 8 state_0.length) then
 bif ((decide ((0:Int)≤(4:Int))) && (decide (4<(state_0.length:Int)))) then
 bif (Nat.beq 8 state_0.length) then
 bif ((decide ((0:Int)≤(5:Int))) && (decide (5<(state_0.length:Int)))) then
 bif (Nat.beq 8 state_0.length) then
 bif ((decide ((0:Int)≤(6:Int))) && (decide (6<(state_0.length:Int)))) then
 bif (Nat.beq 8 state_0.length) then
 bif ((decide ((0:Int)≤(7:Int))) && (decide (7<(state_0.length:Int)))) then
 k (.c0 (state_0.getD (0:Int).toNat 0) (state_0.getD (1:Int).toNat 0) (state_0.getD (2:Int).toNat 0) (state_0.getD (3:Int).toNat 0) (state_0.getD (4:Int).toNat 0) (state_0.getD (5:Int).toNat 0) (state_0.getD (6:Int).toNat 0) (state_0.getD (7:Int).toNat 0) 0 state_0 [0,0,0,0,0,0,0,0] r0)
 else none
 else none
 else none
 else none
 else none
 else none
 else none
 else none
 else none
 else none
 else none
 else none
 else none
 else none
 else none
 else none
 else none
noncomputable def Pm (z0:S9) (z1:Om) (k:Hw→Option (List Int)):Hw→Option (List Int)
 | .c0 a_6 b_7 c_8 d_9 e_10 f_11 g_12 h_13 v_37 state_2r0 v_4r0 w_5r0=>
 bif (decide (v_37<64)) then
  (z1 e_10 6).bind fun r0=>
  (z1 e_10 11).bind fun r1=>
  (z1 e_10 25).bind fun r2=>
  bif ((decide (0≤v_37)) && (decide (v_37<((64:Nat):Int)))) then
  bif (Nat.blt v_37.toNat 64) then
  bif (Nat.beq 64 w_5r0.length) then
  bif ((decide (0≤v_37)) && (decide (v_37<(w_5r0.length:Int)))) then
  (z1 a_6 2).bind fun r3=>
  (z1 a_6 13).bind fun r4=>
  (z1 a_6 22).bind fun r5=>
  k (.c0 (w32 ((w32 ((w32 ((w32 ((w32 (h_13+(w32 (((BitVec.toNat ((BitVec.ofInt (IntKind.bits IntKind.u32) (w32 (((BitVec.toNat ((BitVec.ofInt (IntKind.bits IntKind.u32) r0) ^^^ (BitVec.ofInt (IntKind.bits IntKind.u32) r1))):Nat):Int))) ^^^ (BitVec.ofInt (IntKind.bits IntKind.u32) r2))):Nat):Int))))+(w32 (((BitVec.toNat ((BitVec.ofInt (IntKind.bits IntKind.u32) (w32 (((BitVec.toNat ((BitVec.ofInt (IntKind.bits IntKind.u32) e_10) &&& (BitVec.ofInt (IntKind.bits IntKind.u32) f_11))):Nat):Int))) ^^^ (BitVec.ofInt (IntKind.bits IntKind.u32) (w32 (((BitVec.toNat ((BitVec.ofInt (IntKind.bits IntKind.u32) (w32 (((BitVec.toNat ((BitVec.ofInt (IntKind.bits IntKind.u32) (ite ((IntKind.signed IntKind.u32)=true) (-(1:Int)) (IntKind.max IntKind.u32))) ^^^ (BitVec.ofInt (IntKind.bits IntKind.u32) e_10))):Nat):Int))) &&& (BitVec.ofInt (IntKind.bits IntKind.u32) g_12))):Nat):Int))))):Nat):Int))))+([(1116352408:Int),(1899447441:Int),(3049323471:Int),(3921009573:Int),(961987163:Int),(1508970993:Int),(2453635748:Int),(2870763221:Int),(3624381080:Int),(310598401:Int),(607225278:Int),(1426881987:Int),(1925078388:Int),(2162078206:Int),(2614888103:Int),(3248222580:Int),(3835390401:Int),(4022224774:Int),(264347078:Int),(604807628:Int),(770255983:Int),(1249150122:Int),(1555081692:Int),(1996064986:Int),(2554220882:Int),(2821834349:Int),(2952996808:Int),(3210313671:Int),(3336571891:Int),(3584528711:Int),(113926993:Int),(338241895:Int),(666307205:Int),(773529912:Int),(1294757372:Int),(1396182291:Int),(1695183700:Int),(1986661051:Int),(2177026350:Int),(2456956037:Int),(2730485921:Int),(2820302411:Int),(3259730800:Int),(3345764771:Int),(3516065817:Int),(3600352804:Int),(4094571909:Int),(275423344:Int),(430227734:Int),(506948616:Int),(659060556:Int),(883997877:Int),(958139571:Int),(1322822218:Int),(1537002063:Int),(1747873779:Int),(1955562222:Int),(2024104815:Int),(2227730452:Int),(2361852424:Int),(2428436474:Int),(2756734187:Int),(3204031479:Int),(3329325298:Int)].getD v_37.toNat 0)))+(w_5r0.getD v_37.toNat 0)))+(w32 ((w32 (((BitVec.toNat ((BitVec.ofInt (IntKind.bits IntKind.u32) (w32 (((BitVec.toNat ((BitVec.ofInt (IntKind.bits IntKind.u32) r3) ^^^ (BitVec.ofInt (IntKind.bits IntKind.u32) r4))):Nat):Int))) ^^^ (BitVec.ofInt (IntKind.bits IntKind.u32) r5))):Nat):Int))+(w32 (((BitVec.toNat ((BitVec.ofInt (IntKind.bits IntKind.u32) (w32 (((BitVec.toNat ((BitVec.ofInt (IntKind.bits IntKind.u32) (w32 (((BitVec.toNat ((BitVec.ofInt (IntKind.bits IntKind.u32) a_6) &&& (BitVec.ofInt (IntKind.bits IntKind.u32) b_7))):Nat):Int))) ^^^ (BitVec.ofInt (IntKind.bits IntKind.u32) (w32 (((BitVec.toNat ((BitVec.ofInt (IntKind.bits IntKind.u32) a_6) &&& (BitVec.ofInt (IntKind.bits IntKind.u32) c_8))):Nat):Int))))):Nat):Int))) ^^^ (BitVec.ofInt (IntKind.bits IntKind.u32) (w32 (((BitVec.toNat ((BitVec.ofInt (IntKind.bits IntKind.u32) b_7) &&& (BitVec.ofInt (IntKind.bits IntKind.u32) c_8))):Nat):Int))))):Nat):Int)))))) a_6 b_7 c_8 (w32 (d_9+(w32 ((w32 ((w32 ((w32 (h_13+(w32 (((BitVec.toNat ((BitVec.ofInt (IntKind.bits IntKind.u32) (w32 (((BitVec.toNat ((BitVec.ofInt (IntKind.bits IntKind.u32) r0) ^^^ (BitVec.ofInt (IntKind.bits IntKind.u32) r1))):Nat):Int))) ^^^ (BitVec.ofInt (IntKind.bits IntKind.u32) r2))):Nat):Int))))+(w32 (((BitVec.toNat ((BitVec.ofInt (IntKind.bits IntKind.u32) (w32 (((BitVec.toNat ((BitVec.ofInt (IntKind.bits IntKind.u32) e_10) &&& (BitVec.ofInt (IntKind.bits IntKind.u32) f_11))):Nat):Int))) ^^^ (BitVec.ofInt (IntKind.bits IntKind.u32) (w32 (((BitVec.toNat ((BitVec.ofInt (IntKind.bits IntKind.u32) (w32 (((BitVec.toNat ((BitVec.ofInt (IntKind.bits IntKind.u32) (ite ((IntKind.signed IntKind.u32)=true) (-(1:Int)) (IntKind.max IntKind.u32))) ^^^ (BitVec.ofInt (IntKind.bits IntKind.u32) e_10))):Nat):Int))) &&& (BitVec.ofInt (IntKind.bits IntKind.u32) g_12))):Nat):Int))))):Nat):Int))))+([(1116352408:Int),(1899447441:Int),(3049323471:Int),(3921009573:Int),(961987163:Int),(1508970993:Int),(2453635748:Int),(2870763221:Int),(3624381080:Int),(310598401:Int),(607225278:Int),(1426881987:Int),(1925078388:Int),(2162078206:Int),(2614888103:Int),(3248222580:Int),(3835390401:Int),(4022224774:Int),(264347078:Int),(604807628:Int),(770255983:Int),(1249150122:Int),(1555081692:Int),(1996064986:Int),(2554220882:Int),(2821834349:Int),(2952996808:Int),(3210313671:Int),(3336571891:Int),(3584528711:Int),(113926993:Int),(338241895:Int),(666307205:Int),(773529912:Int),(1294757372:Int),(1396182291:Int),(1695183700:Int),(1986661051:Int),(2177026350:Int),(2456956037:Int),(2730485921:Int),(2820302411:Int),(3259730800:Int),(3345764771:Int),(3516065817:Int),(3600352804:Int),(4094571909:Int),(275423344:Int),(430227734:Int),(506948616:Int),(659060556:Int),(883997877:Int),(958139571:Int),(1322822218:Int),(1537002063:Int),(1747873779:Int),(1955562222:Int),(2024104815:Int),(2227730452:Int),(2361852424:Int),(2428436474:Int),(2756734187:Int),(3204031479:Int),(3329325298:Int)].getD v_37.toNat 0)))+(w_5r0.getD v_37.toNat 0))))) e_10 f_11 g_12 (w64 (v_37+1)) state_2r0 v_4r0 w_5r0)
  else none
  else none
  else none
  else none
 else
  k (.c1 0 state_2r0 v_4r0 [a_6,b_7,c_8,d_9,e_10,f_11,g_12,h_13])
 | .c1 v_109 state_2r0 v_4r0 out_17r0=>
 bif (decide (v_109<8)) then
  bif (Nat.beq 8 out_17r0.length) then
  bif ((decide (0≤v_109)) && (decide (v_109<(out_17r0.length:Int)))) then
  bif (Nat.beq 8 state_2r0.length) then
  bif ((decide (0≤v_109)) && (decide (v_109<(state_2r0.length:Int)))) then
  bif (Nat.beq 8 out_17r0.length) then
  bif ((decide (0≤v_109)) && (decide (v_109<(out_17r0.length:Int)))) then
  k (.c1 (w64 (v_109+1)) state_2r0 v_4r0 (out_17r0.set v_109.toNat (w32 ((out_17r0.getD v_109.toNat 0)+(state_2r0.getD v_109.toNat 0)))))
  else none
  else none
  else none
  else none
  else none
  else none
 else
  bif (Nat.beq 8 out_17r0.length) then
  bif ((Nat.beq out_17r0.length v_4r0.length) && (Nat.beq 8 out_17r0.length)) then
  bif ((Nat.beq 8 out_17r0.length) && true) then
  some out_17r0
  else none
  else none
  else none
noncomputable def Ac:Nat→Hw→Option (List Int)
 | 0,_=>none
 | m+1,s=>Pm Cj QY (Ac m) s
noncomputable def Ej:U9:=KAJ Cj QY (Ac gas)
theorem FAd:Tells ctx PP 156 cv47 cv45 (fun a=>Ej a.1 a.2):=
 have b:∀ z0 z1,CutIs ctx PP 156 Tryz.f156 [] [(194,WAR z0),(195,Q9 z1)] cv45 XAR (Pm z0 z1):=fun z0 z1 _ s=>by cases s <;> kernel_rfl
 have e:∀ z0 z1,EntryIs ctx PP 156 [] [(194,WAR z0),(195,Q9 z1)] cv47 cv45 XAR (fun k a=>KAJ z0 z1 k a.1 a.2):=fun z0 z1 _ a=>by kernel_rfl
 fn_ok (hc EAd (hc TAR hl_nil)) Tryz.func156 (fun s s' h=>by cases s <;> cases s' <;> first | (cases h;done) | (cases h;rfl) | exact (rg_ne h (by kernel_rfl)).elim) (fun _=>rfl) (fun _ _=>rfl) (b Cj QY) (e Cj QY) gas
noncomputable def YAR {γ:Type} (F:U9):Hd ctx γ:=hdl cv47.dec (fun a=>F a.1 a.2) cv45.enc
abbrev LAJ:=(List Int)→ByteArray→Option ((List Int)×ByteArray)
inductive Iw where
 | c0 (s_1:ByteArray) (state_2r0:(List Int)) (v_4r0:(List Int))
noncomputable def ZAR:Iw→LI
 | .c0 s_1 state_2r0 v_4r0=>(tdo Tryz.f102 96,[(1,[.one (.str s_1)]),(2,[.one (.ptr 128 0)]),(4,[.one (.ptr 256 0)])],[(128,.ar 138 state_2r0),(256,.ar 138 v_4r0)])
noncomputable def MAJ (z0:U9) (k:Iw→Option ((List Int)×ByteArray)) (state_0:(List Int)) (s_1:ByteArray):Option ((List Int)×ByteArray):=
 k (.c0 s_1 state_0 [0,0,0,0,0,0,0,0])
noncomputable def V9 (z0:U9) (k:Iw→Option ((List Int)×ByteArray)):Iw→Option ((List Int)×ByteArray)
 | .c0 s_1 state_2r0 v_4r0=>
 bif (decide ((s_1.size:Int)≥64)) then
  bif (Nat.beq 8 state_2r0.length) then
  bif ((decide ((0:Int)≤(64:Int))) && (decide (64≤(s_1.size:Int)))) then
  (z0 state_2r0 (s_1.extract 0 (64:Int).toNat)).bind fun r0=>
  bif ((Nat.beq r0.length state_2r0.length) && (Nat.beq 8 r0.length)) then
  bif ((decide ((0:Int)≤(64:Int))) && (decide (64≤(s_1.size:Int)))) then
  k (.c0 (s_1.extract (64:Int).toNat s_1.size) r0 v_4r0)
  else none
  else none
  else none
  else none
 else
  bif (Nat.beq 8 state_2r0.length) then
  bif ((Nat.beq state_2r0.length v_4r0.length) && (Nat.beq 8 state_2r0.length)) then
  bif ((Nat.beq 8 state_2r0.length) && true) then
  some (state_2r0,s_1)
  else none
  else none
  else none
noncomputable def Jw:Nat→Iw→Option ((List Int)×ByteArray)
 | 0,_=>none
 | m+1,s=>V9 Ej (Jw m) s
noncomputable def Kw:LAJ:=MAJ Ej (Jw gas)
theorem GAd:Tells ctx PP 102 cv47 cv47 (fun a=>Kw a.1 a.2):=
 have b:∀ z0,CutIs ctx PP 102 Tryz.f102 [] [(156,YAR z0)] cv47 ZAR (V9 z0):=fun z0 _ s=>by cases s <;> kernel_rfl
 have e:∀ z0,EntryIs ctx PP 102 [] [(156,YAR z0)] cv47 cv47 ZAR (fun k a=>MAJ z0 k a.1 a.2):=fun z0 _ a=>by kernel_rfl
 fn_ok (hc FAd hl_nil) Tryz.func102 (fun s s' h=>by cases s;cases s';cases h;rfl) (fun _=>rfl) (fun _ _=>rfl) (b Ej) (e Ej) gas
noncomputable def HAd {γ:Type} (F:LAJ):Hd ctx γ:=hdl cv47.dec (fun a=>F a.1 a.2) cv47.enc
abbrev NAJ:=(List Int)→Option ByteArray
inductive Nw where
 | c0 (out_3:ByteArray) (v_6:(List Int)) (v_7:Int)
noncomputable def AAS:Nw→LI
 | .c0 out_3 v_6 v_7=>(tdo Tryz.f105 232,[(3,[.one (.str out_3)]),(6,[.arr 138 v_6]),(7,[.one (.int .i64 v_7)])],[])
noncomputable def OAJ (z0:Fg) (k:Nw→Option ByteArray) (state_0:(List Int)):Option ByteArray:=
 bif (Nat.beq 8 state_0.length) then
 k (.c0 ⟨#[]⟩ state_0 0)
 else none
noncomputable def W9 (z0:Fg) (k:Nw→Option ByteArray):Nw→Option ByteArray
 | .c0 out_3 v_6 v_7=>
 bif (decide (v_7<8)) then
  bif (Nat.beq 8 v_6.length) then
  bif ((decide (0≤v_7)) && (decide (v_7<(v_6.length:Int)))) then
  (z0 (v_6.getD v_7.toNat 0)).bind fun r0=>
  bif (decide ((out_3.size+r0.size)≤9223372036854775807)) then
  k (.c0 (out_3++r0) v_6 (w64 (v_7+1)))
  else none
  else none
  else none
 else
  some out_3
noncomputable def Qw:Nat→Nw→Option ByteArray
 | 0,_=>none
 | m+1,s=>W9 WZ (Qw m) s
noncomputable def Rw:NAJ:=OAJ WZ (Qw gas)
theorem IAd:Tells ctx PP 105 cv45 cv3 (fun a=>Rw a):=
 have b:∀ z0,CutIs ctx PP 105 Tryz.f105 [] [(158,Lm z0)] cv3 AAS (W9 z0):=fun z0 _ s=>by cases s <;> kernel_rfl
 have e:∀ z0,EntryIs ctx PP 105 [] [(158,Lm z0)] cv45 cv3 AAS (fun k a=>OAJ z0 k a):=fun z0 _ a=>by kernel_rfl
 fn_ok (hc P9 hl_nil) Tryz.func105 (fun s s' h=>by cases s;cases s';cases h;rfl) (fun _=>rfl) (fun _ _=>rfl) (b WZ) (e WZ) gas
noncomputable def JAd {γ:Type} (F:NAJ):Hd ctx γ:=hdl cv45.dec (fun a=>F a) cv3.enc
abbrev Uw:=ByteArray→Option ByteArray
noncomputable def PAJ (z0:XAI) (z1:EAJ) (z2:LAJ) (z3:NAJ) (s_0:ByteArray):Option ByteArray:=
 z0.bind fun r0=>
 (z1 (s_0.size:Int)).bind fun r1=>
 bif (decide ((s_0.size+r1.size)≤9223372036854775807)) then
 (z2 r0 (s_0++r1)).bind fun r2=>
 bif ((Nat.beq r2.1.length 8) && (Nat.beq 8 r2.1.length)) then
 bif (Nat.beq 8 r2.1.length) then
 (z3 r2.1).bind fun r3=>
 some r3
 else none
 else none
 else none
noncomputable def Bc:Uw:=PAJ O9 Dw Kw Rw
theorem QAJ:Tells ctx PP 32 cv3 cv3 (fun a=>Bc a):=fn_ok0 (hc WAc (hc AAd (hc GAd (hc IAd hl_nil)))) Tryz.func32 ((fun z0 z1 z2 z3 a=>by kernel_rfl:∀ z0 z1 z2 z3,EntryIs0 ctx PP 32 [] [(103,XAc z0),(104,BAd z1),(102,HAd z2),(105,JAd z3)] cv3 cv3 fun a=>PAJ z0 z1 z2 z3 a) O9 Dw Kw Rw)
noncomputable def RAJ {γ:Type} (F:Uw):Hd ctx γ:=hdl cv3.dec (fun a=>F a) cv3.enc
abbrev X9:=Option SBook
noncomputable def SAJ (z0:Uw) (z1:Zv)  : Option SBook:=
 (z0 ⟨#[]⟩).bind fun r0=>
 (z1 32).bind fun r1=>
 some ⟨r0,0,[],0,r1,0⟩
noncomputable def Fj:X9:=SAJ Bc Qd
theorem BAS:Tells ctx PP 30 cv0 cv14 (fun _=>Fj):=fn_ok0 (hc QAJ (hc ZAI hl_nil)) Tryz.func30 ((fun z0 z1 _=>by kernel_rfl:∀ z0 z1,EntryIs0 ctx PP 30 [] [(32,RAJ z0),(99,AAJ z1)] cv0 cv14 fun _=>SAJ z0 z1) Bc Qd)
noncomputable def CAS {γ:Type} (F:X9):Hd ctx γ:=hdl cv0.dec (fun _=>F) cv14.enc
abbrev Vw:=SBook→Option SBook
noncomputable def TAJ (b_0:SBook):Option SBook:=
 bif (decide ((b_0.fThings.length*48)≤140737488355328)) then
 some b_0
 else none
noncomputable def Ye:Vw:=TAJ
theorem DAS:Tells ctx PP 134 cv20 cv14 (fun a=>Ye a):=fn_ok0 hl_nil Tryz.func134 (fun a=>by kernel_rfl:EntryIs0 ctx PP 134 [] [] cv20 cv14 fun a=>TAJ a)
noncomputable def UAJ {γ:Type} (F:Vw):Hd ctx γ:=hdl cv20.dec (fun a=>F a) cv14.enc
abbrev Hg:=Int→Option ByteArray
inductive Xw where
 | c0 (n_0:Int) (out_3:(List Int))
noncomputable def EAS:Xw→LI
 | .c0 n_0 out_3=>(tdo Tryz.f186 224,[(0,[.one (.int .i64 n_0)]),(3,[.one (.own 240)])],[(240,.sl 5 out_3)])
noncomputable def FAS (k:Xw→Option ByteArray) (n_0:Int):Option ByteArray:=
 k (.c0 n_0 [])
noncomputable def Y9 (k:Xw→Option ByteArray):Xw→Option ByteArray
 | .c0 n_0 out_3=>
 bif (decide (n_0 > 127)) then
  bif (decide (((out_3.length+1)*1)≤140737488355328)) then
  k (.c0 (w64 (n_0.tdiv 128)) (out_3++[(w8 (w64 (128+(n_0.tmod 128))))]))
  else none
 else
  bif (decide (((out_3.length+1)*1)≤140737488355328)) then
  some (ofBytes (out_3++[(w8 n_0)]))
  else none
noncomputable def Yw:Nat→Xw→Option ByteArray
 | 0,_=>none
 | m+1,s=>Y9 (Yw m) s
noncomputable def Ea:Hg:=FAS (Yw gas)
theorem Qm:Tells ctx PP 186 cv15 cv3 (fun a=>Ea a):=
 have b:CutIs ctx PP 186 Tryz.f186 [] [] cv3 EAS (Y9):=fun _ s=>by cases s <;> kernel_rfl
 have e:EntryIs ctx PP 186 [] [] cv15 cv3 EAS (fun k a=>FAS k a):=fun _ a=>by kernel_rfl
 fn_ok hl_nil Tryz.func186 (fun s s' h=>by cases s;cases s';cases h;rfl) (fun _=>rfl) (fun _ _=>rfl) b e gas
noncomputable def Sm {γ:Type} (F:Hg):Hd ctx γ:=hdl cv15.dec (fun a=>F a) cv3.enc
abbrev LZ:=Int→Int→Int→Option Bool
noncomputable def GAS (n_0:Int) (low_1:Int) (high_2:Int):Option Bool:=
 bif (decide (n_0≥low_1)) then
 some (decide (n_0≤high_2))
 else
 some false
noncomputable def WX:LZ:=GAS
theorem Ze:Tells ctx PP 60 cv5 cv6 (fun a=>WX a.1 a.2.1 a.2.2):=fn_ok0 hl_nil Tryz.func60 (fun a=>by kernel_rfl:EntryIs0 ctx PP 60 [] [] cv5 cv6 fun a=>GAS a.1 a.2.1 a.2.2)
noncomputable def Fa {γ:Type} (F:LZ):Hd ctx γ:=hdl cv5.dec (fun a=>F a.1 a.2.1 a.2.2) cv6.enc
abbrev Zw:=SThing→Option Bool
noncomputable def VAJ (z0:LZ) (x_0:SThing):Option Bool:=
 (z0 x_0.fId 1 1000).bind fun r0=>
 bif (!r0) then
 some false
 else
 (z0 x_0.fNext 0 16).bind fun r1=>
 bif (!r1) then
  some false
 else
  bif (x_0.fKind != 2) then
  bif (x_0.fNext != 0) then
   some false
  else
   bif x_0.fSigns then
   some false
   else
   bif (x_0.fKind != 1) then
    bif x_0.fWraps then
    some false
    else
    bif (x_0.fKind == 1) then
     bif (x_0.fKind == 1) then
     some ((x_0.fValue.size:Int) == 32)
     else
     bif (x_0.fKind == 3) then
      some (decide ((x_0.fValue.size:Int)≤100))
     else
      some false
    else
     bif (x_0.fKind == 2) then
     some ((x_0.fValue.size:Int) == 32)
     else
     bif (x_0.fKind == 3) then
      some (decide ((x_0.fValue.size:Int)≤100))
     else
      some false
   else
    bif (x_0.fKind == 1) then
    bif (x_0.fKind == 1) then
     some ((x_0.fValue.size:Int) == 32)
    else
     bif (x_0.fKind == 3) then
     some (decide ((x_0.fValue.size:Int)≤100))
     else
     some false
    else
    bif (x_0.fKind == 2) then
     some ((x_0.fValue.size:Int) == 32)
    else
     bif (x_0.fKind == 3) then
     some (decide ((x_0.fValue.size:Int)≤100))
     else
     some false
  else
  bif (x_0.fKind != 1) then
   bif x_0.fWraps then
   some false
   else
   bif (x_0.fKind == 1) then
    bif (x_0.fKind == 1) then
    some ((x_0.fValue.size:Int) == 32)
    else
    bif (x_0.fKind == 3) then
     some (decide ((x_0.fValue.size:Int)≤100))
    else
     some false
   else
    bif (x_0.fKind == 2) then
    some ((x_0.fValue.size:Int) == 32)
    else
    bif (x_0.fKind == 3) then
     some (decide ((x_0.fValue.size:Int)≤100))
    else
     some false
  else
   bif (x_0.fKind == 1) then
   bif (x_0.fKind == 1) then
    some ((x_0.fValue.size:Int) == 32)
   else
    bif (x_0.fKind == 3) then
    some (decide ((x_0.fValue.size:Int)≤100))
    else
    some false
   else
   bif (x_0.fKind == 2) then
    some ((x_0.fValue.size:Int) == 32)
   else
    bif (x_0.fKind == 3) then
    some (decide ((x_0.fValue.size:Int)≤100))
    else
    some false
noncomputable def Af:Zw:=VAJ WX
theorem IAS:Tells ctx PP 129 cv16 cv6 (fun a=>Af a):=fn_ok0 (hc Ze hl_nil) Tryz.func129 ((fun z0 a=>by kernel_rfl:∀ z0,EntryIs0 ctx PP 129 [] [(60,Fa z0)] cv16 cv6 fun a=>VAJ z0 a) WX)
noncomputable def WAJ {γ:Type} (F:Zw):Hd ctx γ:=hdl cv16.dec (fun a=>F a) cv6.enc
abbrev Um:=Int→Option ByteArray
noncomputable def XAJ (n_0:Int):Option ByteArray:=
 some (ofBytes [(w8 n_0)])
noncomputable def Cc:Um:=XAJ
theorem YAJ:Tells ctx PP 188 cv15 cv3 (fun a=>Cc a):=fn_ok0 hl_nil Tryz.func188 (fun a=>by kernel_rfl:EntryIs0 ctx PP 188 [] [] cv15 cv3 fun a=>XAJ a)
noncomputable def Z9 {γ:Type} (F:Um):Hd ctx γ:=hdl cv15.dec (fun a=>F a) cv3.enc
abbrev ZAJ:=SThing→Option Int
inductive Dx where
 | c0 (n_3:Int) (v_15:Int) (v_16:Int) (v_14:(List Bool))
noncomputable def JAS:Dx→LI
 | .c0 n_3 v_15 v_16 v_14=>(tdo Tryz.f207 232,[(3,[.one (.int .i64 n_3)]),(14,[.one (.own 944)]),(15,[.one (.int .i64 v_15)]),(16,[.one (.int .i64 v_16)])],[(944,.sl 4 v_14)])
noncomputable def AAK (k:Dx→Option Int) (x_0:SThing):Option Int:=
 k (.c0 0 ((4:Nat):Int) 0 [x_0.fHidden,x_0.fFixed,x_0.fSigns,x_0.fWraps])
noncomputable def KAS (k:Dx→Option Int):Dx→Option Int
 | .c0 n_3 v_15 v_16 v_14=>
 bif (decide (v_16<v_15)) then
  bif ((decide (0≤v_16)) && (decide (v_16<(v_14.length:Int)))) then
  bif (v_14.getD v_16.toNat false) then
  bif (decide (0≤v_16)) then
  k (.c0 (w64 (((BitVec.toNat ((BitVec.ofInt (IntKind.bits IntKind.i64) n_3) ||| (BitVec.ofInt (IntKind.bits IntKind.i64) (w64 (1*(2 ^ (Min.min v_16.toNat (IntKind.bits IntKind.i64)))))))):Nat):Int)) v_15 (w64 (v_16+1)) v_14)
  else none
  else
  k (.c0 n_3 v_15 (w64 (v_16+1)) v_14)
  else none
 else
  some n_3
noncomputable def BAK:Nat→Dx→Option Int
 | 0,_=>none
 | m+1,s=>KAS (BAK m) s
noncomputable def Gx:ZAJ:=AAK (BAK gas)
theorem KAd:Tells ctx PP 207 cv16 cv15 (fun a=>Gx a):=
 have b:CutIs ctx PP 207 Tryz.f207 [] [] cv15 JAS (KAS):=fun _ s=>by cases s <;> kernel_rfl
 have e:EntryIs ctx PP 207 [] [] cv16 cv15 JAS (fun k a=>AAK k a):=fun _ a=>by kernel_rfl
 fn_ok hl_nil Tryz.func207 (fun s s' h=>by cases s;cases s';cases h;rfl) (fun _=>rfl) (fun _ _=>rfl) b e gas
noncomputable def LAd {γ:Type} (F:ZAJ):Hd ctx γ:=hdl cv16.dec (fun a=>F a) cv15.enc
abbrev CAK:=ByteArray→Option ByteArray
noncomputable def DAK (z0:Hg) (s_0:ByteArray):Option ByteArray:=
 (z0 (s_0.size:Int)).bind fun r0=>
 bif (decide ((r0.size+s_0.size)≤9223372036854775807)) then
 some (r0++s_0)
 else none
noncomputable def Ox:CAK:=DAK Ea
theorem MAd:Tells ctx PP 208 cv3 cv3 (fun a=>Ox a):=fn_ok0 (hc Qm hl_nil) Tryz.func208 ((fun z0 a=>by kernel_rfl:∀ z0,EntryIs0 ctx PP 208 [] [(186,Sm z0)] cv3 cv3 fun a=>DAK z0 a) Ea)
noncomputable def NAd {γ:Type} (F:CAK):Hd ctx γ:=hdl cv3.dec (fun a=>F a) cv3.enc
abbrev AAA:=SThing→Option (ByteArray×Bool)
noncomputable def EAK (z0:Zw) (z1:Hg) (z2:Um) (z3:ZAJ) (z4:CAK) (x_0:SThing):Option (ByteArray×Bool):=
 (z0 x_0).bind fun r0=>
 bif (!r0) then
 some (⟨#[]⟩,false)
 else
 (z1 x_0.fId).bind fun r1=>
 (z2 x_0.fKind).bind fun r2=>
 bif (decide ((r1.size+r2.size)≤9223372036854775807)) then
 (z3 x_0).bind fun r3=>
 (z2 r3).bind fun r4=>
 bif (decide (((r1++r2).size+r4.size)≤9223372036854775807)) then
 (z4 x_0.fValue).bind fun r5=>
 bif (decide ((((r1++r2)++r4).size+r5.size)≤9223372036854775807)) then
 (z1 x_0.fNext).bind fun r6=>
 bif (decide (((((r1++r2)++r4)++r5).size+r6.size)≤9223372036854775807)) then
 some (((((r1++r2)++r4)++r5)++r6),true)
 else none
 else none
 else none
 else none
noncomputable def Gj:AAA:=EAK Af Ea Cc Gx Ox
theorem LAS:Tells ctx PP 187 cv16 cv18 (fun a=>Gj a):=fn_ok0 (hc IAS (hc Qm (hc YAJ (hc KAd (hc MAd hl_nil))))) Tryz.func187 ((fun z0 z1 z2 z3 z4 a=>by kernel_rfl:∀ z0 z1 z2 z3 z4,EntryIs0 ctx PP 187 [] [(129,WAJ z0),(186,Sm z1),(188,Z9 z2),(207,LAd z3),(208,NAd z4)] cv16 cv18 fun a=>EAK z0 z1 z2 z3 z4 a) Af Ea Cc Gx Ox)
noncomputable def MAS {γ:Type} (F:AAA):Hd ctx γ:=hdl cv16.dec (fun a=>F a) cv18.enc
abbrev BAA:=SRec→Option (ByteArray×Bool)
noncomputable def FAK (z0:Hg) (z1:LZ) (z2:AAA) (z3:Um) (r_0:SRec):Option (ByteArray×Bool):=
 bif (r_0.fKind == 1) then
 bif (!((r_0.fText.size:Int) == 32)) then
  some (⟨#[]⟩,false)
 else
  bif (!((r_0.fKind == r_0.fKind) && (((ByteArray.toList r_0.fText) == (ByteArray.toList r_0.fText)) && ((r_0.fNum == 0) && (((r_0.fThing.fId == 0) && ((r_0.fThing.fKind == 0) && ((r_0.fThing.fHidden == false) && ((r_0.fThing.fFixed == false) && ((r_0.fThing.fSigns == false) && ((r_0.fThing.fWraps == false) && (((ByteArray.toList r_0.fThing.fValue) == (ByteArray.toList ⟨#[]⟩)) && ((r_0.fThing.fNext == 0) && true)))))))) && true))))) then
  some (⟨#[]⟩,false)
  else
  (z3 r_0.fKind).bind fun r0=>
  bif (decide ((r0.size+r_0.fText.size)≤9223372036854775807)) then
  some ((r0++r_0.fText),true)
  else none
 else
 bif (r_0.fKind == 2) then
  (z0 r_0.fNum).bind fun r1=>
  (z1 r_0.fNum 0 3).bind fun r2=>
  bif (!r2) then
  some (⟨#[]⟩,false)
  else
  bif (!((r_0.fKind == r_0.fKind) && (((ByteArray.toList r_0.fText) == (ByteArray.toList ⟨#[]⟩)) && ((r_0.fNum == r_0.fNum) && (((r_0.fThing.fId == 0) && ((r_0.fThing.fKind == 0) && ((r_0.fThing.fHidden == false) && ((r_0.fThing.fFixed == false) && ((r_0.fThing.fSigns == false) && ((r_0.fThing.fWraps == false) && (((ByteArray.toList r_0.fThing.fValue) == (ByteArray.toList ⟨#[]⟩)) && ((r_0.fThing.fNext == 0) && true)))))))) && true))))) then
   some (⟨#[]⟩,false)
  else
   (z3 r_0.fKind).bind fun r3=>
   bif (decide ((r3.size+r1.size)≤9223372036854775807)) then
   some ((r3++r1),true)
   else none
 else
  bif (r_0.fKind == 3) then
  (z2 r_0.fThing).bind fun r4=>
  bif (!r4.2) then
   some (⟨#[]⟩,false)
  else
   bif (!((r_0.fKind == r_0.fKind) && (((ByteArray.toList r_0.fText) == (ByteArray.toList ⟨#[]⟩)) && ((r_0.fNum == 0) && (((r_0.fThing.fId == r_0.fThing.fId) && ((r_0.fThing.fKind == r_0.fThing.fKind) && ((r_0.fThing.fHidden == r_0.fThing.fHidden) && ((r_0.fThing.fFixed == r_0.fThing.fFixed) && ((r_0.fThing.fSigns == r_0.fThing.fSigns) && ((r_0.fThing.fWraps == r_0.fThing.fWraps) && (((ByteArray.toList r_0.fThing.fValue) == (ByteArray.toList r_0.fThing.fValue)) && ((r_0.fThing.fNext == r_0.fThing.fNext) && true)))))))) && true))))) then
   some (⟨#[]⟩,false)
   else
   (z3 r_0.fKind).bind fun r5=>
   bif (decide ((r5.size+r4.1.size)≤9223372036854775807)) then
   some ((r5++r4.1),true)
   else none
  else
  bif (r_0.fKind == 4) then
   (z0 r_0.fNum).bind fun r6=>
   (z1 r_0.fNum 1 1000).bind fun r7=>
   bif (!r7) then
   some (⟨#[]⟩,false)
   else
   bif (!((r_0.fKind == r_0.fKind) && (((ByteArray.toList r_0.fText) == (ByteArray.toList ⟨#[]⟩)) && ((r_0.fNum == r_0.fNum) && (((r_0.fThing.fId == 0) && ((r_0.fThing.fKind == 0) && ((r_0.fThing.fHidden == false) && ((r_0.fThing.fFixed == false) && ((r_0.fThing.fSigns == false) && ((r_0.fThing.fWraps == false) && (((ByteArray.toList r_0.fThing.fValue) == (ByteArray.toList ⟨#[]⟩)) && ((r_0.fThing.fNext == 0) && true)))))))) && true))))) then
    some (⟨#[]⟩,false)
   else
    (z3 r_0.fKind).bind fun r8=>
    bif (decide ((r8.size+r6.size)≤9223372036854775807)) then
    some ((r8++r6),true)
    else none
  else
   some (⟨#[]⟩,false)
noncomputable def Ij:BAA:=FAK Ea WX Gj Cc
theorem NAS:Tells ctx PP 151 cv19 cv18 (fun a=>Ij a):=fn_ok0 (hc Qm (hc Ze (hc LAS (hc YAJ hl_nil)))) Tryz.func151 ((fun z0 z1 z2 z3 a=>by kernel_rfl:∀ z0 z1 z2 z3,EntryIs0 ctx PP 151 [] [(186,Sm z0),(60,Fa z1),(187,MAS z2),(188,Z9 z3)] cv19 cv18 fun a=>FAK z0 z1 z2 z3 a) Ea WX Gj Cc)
noncomputable def OAS {γ:Type} (F:BAA):Hd ctx γ:=hdl cv19.dec (fun a=>F a) cv18.enc
abbrev GAK:=SBook→Option Bool
inductive Px where
 | c0 (v_6:(List SThing)) (v_7:Int) (v_8:Int) (b_1:SBook)
noncomputable def PAS:Px→LI
 | .c0 v_6 v_7 v_8 b_1=>(tdo Tryz.f63 104,[(1,[.one (.ptr 64 0)]),(6,[.one (.rsl 69 v_6)]),(7,[.one (.int .i64 v_7)]),(8,[.one (.int .i64 v_8)])],[(64,.var [.str b_1.fWord,.int .i64 b_1.fTries,.rsl 69 b_1.fThings,.int .i64 b_1.fLast,.str b_1.fChain,.int .i64 b_1.fCount])])
noncomputable def HAK (z0:Zw) (z1:LZ) (k:Px→Option Bool) (b_0:SBook):Option Bool:=
 k (.c0 b_0.fThings (b_0.fThings.length:Int) 0 b_0)
noncomputable def CAA (z0:Zw) (z1:LZ) (k:Px→Option Bool):Px→Option Bool
 | .c0 v_6 v_7 v_8 b_1=>
 bif (decide (v_8<v_7)) then
  bif ((decide (0≤v_8)) && (decide (v_8<(v_6.length:Int)))) then
  (z0 (v_6.getD v_8.toNat (⟨0,0,false,false,false,false,⟨#[]⟩,0⟩:SThing))).bind fun r0=>
  bif (!r0) then
  some false
  else
  bif (decide ((v_6.getD v_8.toNat (⟨0,0,false,false,false,false,⟨#[]⟩,0⟩:SThing)).fId > b_1.fLast)) then
   some false
  else
   bif (decide (v_8 > 0)) then
   bif ((decide (0≤(w64 (v_8 - 1)))) && (decide ((w64 (v_8 - 1))<(b_1.fThings.length:Int)))) then
   bif (decide ((b_1.fThings.getD (w64 (v_8 - 1)).toNat (⟨0,0,false,false,false,false,⟨#[]⟩,0⟩:SThing)).fId≥(v_6.getD v_8.toNat (⟨0,0,false,false,false,false,⟨#[]⟩,0⟩:SThing)).fId)) then
    some false
   else
    k (.c0 v_6 v_7 (w64 (v_8+1)) b_1)
   else none
   else
   k (.c0 v_6 v_7 (w64 (v_8+1)) b_1)
  else none
 else
  bif ((b_1.fWord.size:Int) == 32) then
  bif ((b_1.fChain.size:Int) == 32) then
   (z1 b_1.fTries 0 3).bind fun r1=>
   bif r1 then
   bif (decide ((b_1.fThings.length:Int)≤8)) then
    (z1 b_1.fLast 0 1000).bind fun r2=>
    bif r2 then
    (z1 b_1.fCount 0 10000).bind fun r3=>
    some r3
    else
    some false
   else
    some false
   else
   some false
  else
   some false
  else
  some false
noncomputable def Vm:Nat→Px→Option Bool
 | 0,_=>none
 | m+1,s=>CAA Af WX (Vm m) s
noncomputable def Qx:GAK:=HAK Af WX (Vm gas)
theorem OAd:Tells ctx PP 63 cv20 cv6 (fun a=>Qx a):=
 have b:∀ z0 z1,CutIs ctx PP 63 Tryz.f63 [] [(129,WAJ z0),(60,Fa z1)] cv6 PAS (CAA z0 z1):=fun z0 z1 _ s=>by cases s <;> kernel_rfl
 have e:∀ z0 z1,EntryIs ctx PP 63 [] [(129,WAJ z0),(60,Fa z1)] cv20 cv6 PAS (fun k a=>HAK z0 z1 k a):=fun z0 z1 _ a=>by kernel_rfl
 fn_ok (hc IAS (hc Ze hl_nil)) Tryz.func63 (fun s s' h=>by cases s;cases s';(repeat cases ‹SBook›);cases h;rfl) (fun _=>rfl) (fun _ _=>rfl) (b Af WX) (e Af WX) gas
noncomputable def PAd {γ:Type} (F:GAK):Hd ctx γ:=hdl cv20.dec (fun a=>F a) cv6.enc
abbrev DAA:=SBook→Int→Option Int
inductive Rx where
 | c0 (id_1:Int) (v_8:(List SThing)) (v_9:Int) (v_10:Int)
noncomputable def QAS:Rx→LI
 | .c0 id_1 v_8 v_9 v_10=>(tdo Tryz.f155 104,[(1,[.one (.int .i64 id_1)]),(8,[.one (.rsl 69 v_8)]),(9,[.one (.int .i64 v_9)]),(10,[.one (.int .i64 v_10)])],[])
noncomputable def RAS (k:Rx→Option Int) (b_0:SBook) (id_1:Int):Option Int:=
 k (.c0 id_1 b_0.fThings (b_0.fThings.length:Int) 0)
noncomputable def EAA (k:Rx→Option Int):Rx→Option Int
 | .c0 id_1 v_8 v_9 v_10=>
 bif (decide (v_10<v_9)) then
  bif ((decide (0≤v_10)) && (decide (v_10<(v_8.length:Int)))) then
  bif ((v_8.getD v_10.toNat (⟨0,0,false,false,false,false,⟨#[]⟩,0⟩:SThing)).fId == id_1) then
  some v_10
  else
  k (.c0 id_1 v_8 v_9 (w64 (v_10+1)))
  else none
 else
  some (-(1:Int))
noncomputable def Xm:Nat→Rx→Option Int
 | 0,_=>none
 | m+1,s=>EAA (Xm m) s
noncomputable def Ym:DAA:=RAS (Xm gas)
theorem SAS:Tells ctx PP 155 cv21 cv15 (fun a=>Ym a.1 a.2):=
 have b:CutIs ctx PP 155 Tryz.f155 [] [] cv15 QAS (EAA):=fun _ s=>by cases s <;> kernel_rfl
 have e:EntryIs ctx PP 155 [] [] cv21 cv15 QAS (fun k a=>RAS k a.1 a.2):=fun _ a=>by kernel_rfl
 fn_ok hl_nil Tryz.func155 (fun s s' h=>by cases s;cases s';cases h;rfl) (fun _=>rfl) (fun _ _=>rfl) b e gas
noncomputable def TAS {γ:Type} (F:DAA):Hd ctx γ:=hdl cv21.dec (fun a=>F a.1 a.2) cv15.enc
abbrev IAK:=SThing→SThing→Option Bool
noncomputable def JAK (x_0:SThing) (y_1:SThing):Option Bool:=
 bif (y_1.fKind == x_0.fKind) then
 bif ((ByteArray.toList y_1.fValue) == (ByteArray.toList x_0.fValue)) then
  bif (y_1.fSigns == x_0.fSigns) then
  bif (y_1.fWraps == x_0.fWraps) then
   bif (decide (y_1.fNext≥x_0.fNext)) then
   bif y_1.fHidden then
    bif y_1.fFixed then
    some true
    else
    some (!x_0.fFixed)
   else
    bif (!x_0.fHidden) then
    bif y_1.fFixed then
     some true
    else
     some (!x_0.fFixed)
    else
    some false
   else
   some false
  else
   some false
  else
  some false
 else
  some false
 else
 some false
noncomputable def Ux:IAK:=JAK
theorem QAd:Tells ctx PP 193 cv23 cv6 (fun a=>Ux a.1 a.2):=fn_ok0 hl_nil Tryz.func193 (fun a=>by kernel_rfl:EntryIs0 ctx PP 193 [] [] cv23 cv6 fun a=>JAK a.1 a.2)
noncomputable def RAd {γ:Type} (F:IAK):Hd ctx γ:=hdl cv23.dec (fun a=>F a.1 a.2) cv6.enc
abbrev KAK:=SBook→SThing→Option (Bool×SBook)
noncomputable def LAK (z0:DAA) (z1:IAK) (b_0:SBook) (x_1:SThing):Option (Bool×SBook):=
 (z0 b_0 x_1.fId).bind fun r0=>
 bif (decide (r0≥0)) then
 bif ((decide (0≤r0)) && (decide (r0<(b_0.fThings.length:Int)))) then
 (z1 (b_0.fThings.getD r0.toNat (⟨0,0,false,false,false,false,⟨#[]⟩,0⟩:SThing)) x_1).bind fun r1=>
 bif (!r1) then
  some (false,b_0)
 else
  bif ((decide (0≤r0)) && (decide (r0<(b_0.fThings.length:Int)))) then
  some (true,⟨b_0.fWord,b_0.fTries,(b_0.fThings.set r0.toNat x_1),b_0.fLast,b_0.fChain,b_0.fCount⟩)
  else none
 else none
 else
 bif (x_1.fId != (w64 (b_0.fLast+1))) then
  some (false,b_0)
 else
  bif (decide ((b_0.fThings.length:Int)≥8)) then
  some (false,b_0)
  else
  bif (decide (((b_0.fThings.length+1)*48)≤140737488355328)) then
  some (true,⟨b_0.fWord,b_0.fTries,(b_0.fThings++[x_1]),x_1.fId,b_0.fChain,b_0.fCount⟩)
  else none
noncomputable def Vx:KAK:=LAK Ym Ux
theorem SAd:Tells ctx PP 154 cv50 cv51 (fun a=>Vx a.1 a.2):=fn_ok0 (hc SAS (hc QAd hl_nil)) Tryz.func154 ((fun z0 z1 a=>by kernel_rfl:∀ z0 z1,EntryIs0 ctx PP 154 [0] [(155,TAS z0),(193,RAd z1)] cv50 cv51 fun a=>LAK z0 z1 a.1 a.2) Ym Ux)
noncomputable def TAd {γ:Type} (F:KAK):Hd ctx γ:=hdl cv50.dec (fun a=>F a.1 a.2) cv51.enc
abbrev FAA:=SBook→SRec→Option (SBook×Bool)
noncomputable def MAK (z0:BAA) (z1:GAK) (z2:Vw) (z3:KAK) (z4:DAA) (z5:Uw) (b_0:SBook) (r_1:SRec):Option (SBook×Bool):=
 (z0 r_1).bind fun r0=>
 (z1 b_0).bind fun r1=>
 bif (!r1) then
 some (⟨⟨#[]⟩,0,[],0,⟨#[]⟩,0⟩,false)
 else
 bif (!r0.2) then
  some (⟨⟨#[]⟩,0,[],0,⟨#[]⟩,0⟩,false)
 else
  bif (decide (b_0.fCount≥10000)) then
  some (⟨⟨#[]⟩,0,[],0,⟨#[]⟩,0⟩,false)
  else
  (z2 b_0).bind fun r2=>
  bif (r_1.fKind == 1) then
   bif (decide ((b_0.fChain.size+r0.1.size)≤9223372036854775807)) then
   (z5 (b_0.fChain++r0.1)).bind fun r3=>
   some (⟨r_1.fText,0,r2.fThings,r2.fLast,r3,(w64 (r2.fCount+1))⟩,true)
   else none
  else
   bif (r_1.fKind == 2) then
   bif (decide ((b_0.fChain.size+r0.1.size)≤9223372036854775807)) then
   (z5 (b_0.fChain++r0.1)).bind fun r4=>
   some (⟨r2.fWord,r_1.fNum,r2.fThings,r2.fLast,r4,(w64 (r2.fCount+1))⟩,true)
   else none
   else
   bif (r_1.fKind == 3) then
    (z3 r2 r_1.fThing).bind fun r5=>
    bif (!r5.1) then
    some (⟨⟨#[]⟩,0,[],0,⟨#[]⟩,0⟩,false)
    else
    bif (decide ((b_0.fChain.size+r0.1.size)≤9223372036854775807)) then
    (z5 (b_0.fChain++r0.1)).bind fun r6=>
    some (⟨r5.2.fWord,r5.2.fTries,r5.2.fThings,r5.2.fLast,r6,(w64 (r5.2.fCount+1))⟩,true)
    else none
   else
    bif (r_1.fKind == 4) then
    (z4 b_0 r_1.fNum).bind fun r7=>
    bif (decide (r7<0)) then
     some (⟨⟨#[]⟩,0,[],0,⟨#[]⟩,0⟩,false)
    else
     bif ((decide (0≤r7)) && (decide (r7≤(b_0.fThings.length:Int)))) then
     bif (decide ((((b_0.fThings.take r7.toNat).drop 0).length*48)≤140737488355328)) then
     bif ((decide (0≤(w64 (r7+1)))) && (decide ((w64 (r7+1))≤(b_0.fThings.length:Int)))) then
     bif (decide (((((b_0.fThings.take r7.toNat).drop 0).length+((b_0.fThings.take b_0.fThings.length).drop (w64 (r7+1)).toNat).length)*48)≤140737488355328)) then
     bif (decide ((b_0.fChain.size+r0.1.size)≤9223372036854775807)) then
     (z5 (b_0.fChain++r0.1)).bind fun r8=>
     some (⟨r2.fWord,r2.fTries,(((b_0.fThings.take r7.toNat).drop 0)++((b_0.fThings.take b_0.fThings.length).drop (w64 (r7+1)).toNat)),r2.fLast,r8,(w64 (r2.fCount+1))⟩,true)
     else none
     else none
     else none
     else none
     else none
    else
    bif (decide ((b_0.fChain.size+r0.1.size)≤9223372036854775807)) then
    (z5 (b_0.fChain++r0.1)).bind fun r9=>
    some (⟨r2.fWord,r2.fTries,r2.fThings,r2.fLast,r9,(w64 (r2.fCount+1))⟩,true)
    else none
noncomputable def Jj:FAA:=MAK Ij Qx Ye Vx Ym Bc
theorem UAd:Tells ctx PP 101 cv26 cv27 (fun a=>Jj a.1 a.2):=fn_ok0 (hc NAS (hc OAd (hc DAS (hc SAd (hc SAS (hc QAJ hl_nil)))))) Tryz.func101 ((fun z0 z1 z2 z3 z4 z5 a=>by kernel_rfl:∀ z0 z1 z2 z3 z4 z5,EntryIs0 ctx PP 101 [] [(151,OAS z0),(63,PAd z1),(134,UAJ z2),(154,TAd z3),(155,TAS z4),(32,RAJ z5)] cv26 cv27 fun a=>MAK z0 z1 z2 z3 z4 z5 a.1 a.2) Ij Qx Ye Vx Ym Bc)
noncomputable def UAS {γ:Type} (F:FAA):Hd ctx γ:=hdl cv26.dec (fun a=>F a.1 a.2) cv27.enc
abbrev GAA:=SBook→(List SRec)→Option (SBook×Bool)
inductive Wx where
 | c0 (v_13:(List SRec)) (v_14:Int) (v_15:Int) (v_4c0:ByteArray) (v_4c1:Int) (v_4c3:Int) (v_4c4:ByteArray) (v_4c5:Int) (out_6c0:ByteArray) (out_6c1:Int) (out_6c3:Int) (out_6c4:ByteArray) (out_6c5:Int) (v_4r2:(List SThing)) (out_6r2:(List SThing))
noncomputable def VAS:Wx→LI
 | .c0 v_13 v_14 v_15 v_4c0 v_4c1 v_4c3 v_4c4 v_4c5 out_6c0 out_6c1 out_6c3 out_6c4 out_6c5 v_4r2 out_6r2=>(tdo Tryz.f74 232,[(4,[.one (.ptr 256 0)]),(6,[.one (.ptr 384 0)]),(13,[.one (.rsl 71 v_13)]),(14,[.one (.int .i64 v_14)]),(15,[.one (.int .i64 v_15)])],[(256,.var [.str v_4c0,.int .i64 v_4c1,.own 1016386,.int .i64 v_4c3,.str v_4c4,.int .i64 v_4c5]),(384,.var [.str out_6c0,.int .i64 out_6c1,.own 1024578,.int .i64 out_6c3,.str out_6c4,.int .i64 out_6c5]),(1016386,.sl 69 v_4r2),(1024578,.sl 69 out_6r2)])
noncomputable def NAK (z0:Vw) (z1:FAA) (k:Wx→Option (SBook×Bool)) (b_0:SBook) (list_1:(List SRec)):Option (SBook×Bool):=
 (z0 b_0).bind fun r0=>
 k (.c0 list_1 (list_1.length:Int) 0 ⟨#[]⟩ 0 0 ⟨#[]⟩ 0 r0.fWord r0.fTries r0.fLast r0.fChain r0.fCount [] r0.fThings)
noncomputable def HAA (z0:Vw) (z1:FAA) (k:Wx→Option (SBook×Bool)):Wx→Option (SBook×Bool)
 | .c0 v_13 v_14 v_15 v_4c0 v_4c1 v_4c3 v_4c4 v_4c5 out_6c0 out_6c1 out_6c3 out_6c4 out_6c5 v_4r2 out_6r2=>
 bif (decide (v_15<v_14)) then
  bif ((decide (0≤v_15)) && (decide (v_15<(v_13.length:Int)))) then
  (z1 ⟨out_6c0,out_6c1,out_6r2,out_6c3,out_6c4,out_6c5⟩ (v_13.getD v_15.toNat (⟨0,⟨#[]⟩,0,⟨0,0,false,false,false,false,⟨#[]⟩,0⟩⟩:SRec))).bind fun r0=>
  bif (!r0.2) then
  some (⟨⟨#[]⟩,0,[],0,⟨#[]⟩,0⟩,false)
  else
  k (.c0 v_13 v_14 (w64 (v_15+1)) v_4c0 v_4c1 v_4c3 v_4c4 v_4c5 r0.1.fWord r0.1.fTries r0.1.fLast r0.1.fChain r0.1.fCount v_4r2 r0.1.fThings)
  else none
 else
  some (⟨out_6c0,out_6c1,out_6r2,out_6c3,out_6c4,out_6c5⟩,true)
noncomputable def Xx:Nat→Wx→Option (SBook×Bool)
 | 0,_=>none
 | m+1,s=>HAA Ye Jj (Xx m) s
noncomputable def Lj:GAA:=NAK Ye Jj (Xx gas)
theorem XAS:Tells ctx PP 74 cv113 cv27 (fun a=>Lj a.1 a.2):=
 have b:∀ z0 z1,CutIs ctx PP 74 Tryz.f74 [] [(134,UAJ z0),(101,UAS z1)] cv27 VAS (HAA z0 z1):=fun z0 z1 _ s=>by cases s <;> kernel_rfl
 have e:∀ z0 z1,EntryIs ctx PP 74 [] [(134,UAJ z0),(101,UAS z1)] cv113 cv27 VAS (fun k a=>NAK z0 z1 k a.1 a.2):=fun z0 z1 _ a=>by kernel_rfl
 fn_ok (hc DAS (hc UAd hl_nil)) Tryz.func74 (fun s s' h=>by cases s;cases s';cases h;rfl) (fun _=>rfl) (fun _ _=>rfl) (b Ye Jj) (e Ye Jj) gas
noncomputable def YAS {γ:Type} (F:GAA):Hd ctx γ:=hdl cv113.dec (fun a=>F a.1 a.2) cv27.enc
abbrev OAK:=(List SThing)→(List SThing)→Option Bool
inductive Yx where
 | c0 (a_0:(List SThing)) (b_1:(List SThing)) (v_12:Int) (v_13:Int)
noncomputable def ZAS:Yx→LI
 | .c0 a_0 b_1 v_12 v_13=>(tdo Tryz.f125 232,[(0,[.one (.rsl 69 a_0)]),(1,[.one (.rsl 69 b_1)]),(12,[.one (.int .i64 v_12)]),(13,[.one (.int .i64 v_13)])],[])
noncomputable def PAK (k:Yx→Option Bool) (a_0:(List SThing)) (b_1:(List SThing)):Option Bool:=
 bif ((a_0.length:Int) != (b_1.length:Int)) then
 some false
 else
 k (.c0 a_0 b_1 (a_0.length:Int) 0)
noncomputable def IAA (k:Yx→Option Bool):Yx→Option Bool
 | .c0 a_0 b_1 v_12 v_13=>
 bif (decide (v_13<v_12)) then
  bif ((decide (0≤v_13)) && (decide (v_13<(a_0.length:Int)))) then
  bif ((decide (0≤v_13)) && (decide (v_13<(b_1.length:Int)))) then
  bif (!(((a_0.getD v_13.toNat (⟨0,0,false,false,false,false,⟨#[]⟩,0⟩:SThing)).fId == (b_1.getD v_13.toNat (⟨0,0,false,false,false,false,⟨#[]⟩,0⟩:SThing)).fId) && (((a_0.getD v_13.toNat (⟨0,0,false,false,false,false,⟨#[]⟩,0⟩:SThing)).fKind == (b_1.getD v_13.toNat (⟨0,0,false,false,false,false,⟨#[]⟩,0⟩:SThing)).fKind) && (((a_0.getD v_13.toNat (⟨0,0,false,false,false,false,⟨#[]⟩,0⟩:SThing)).fHidden == (b_1.getD v_13.toNat (⟨0,0,false,false,false,false,⟨#[]⟩,0⟩:SThing)).fHidden) && (((a_0.getD v_13.toNat (⟨0,0,false,false,false,false,⟨#[]⟩,0⟩:SThing)).fFixed == (b_1.getD v_13.toNat (⟨0,0,false,false,false,false,⟨#[]⟩,0⟩:SThing)).fFixed) && (((a_0.getD v_13.toNat (⟨0,0,false,false,false,false,⟨#[]⟩,0⟩:SThing)).fSigns == (b_1.getD v_13.toNat (⟨0,0,false,false,false,false,⟨#[]⟩,0⟩:SThing)).fSigns) && (((a_0.getD v_13.toNat (⟨0,0,false,false,false,false,⟨#[]⟩,0⟩:SThing)).fWraps == (b_1.getD v_13.toNat (⟨0,0,false,false,false,false,⟨#[]⟩,0⟩:SThing)).fWraps) && (((ByteArray.toList (a_0.getD v_13.toNat (⟨0,0,false,false,false,false,⟨#[]⟩,0⟩:SThing)).fValue) == (ByteArray.toList (b_1.getD v_13.toNat (⟨0,0,false,false,false,false,⟨#[]⟩,0⟩:SThing)).fValue)) && (((a_0.getD v_13.toNat (⟨0,0,false,false,false,false,⟨#[]⟩,0⟩:SThing)).fNext == (b_1.getD v_13.toNat (⟨0,0,false,false,false,false,⟨#[]⟩,0⟩:SThing)).fNext) && true))))))))) then
  some false
  else
  k (.c0 a_0 b_1 v_12 (w64 (v_13+1)))
  else none
  else none
 else
  some true
noncomputable def Zx:Nat→Yx→Option Bool
 | 0,_=>none
 | m+1,s=>IAA (Zx m) s
noncomputable def Dy:OAK:=PAK (Zx gas)
theorem VAd:Tells ctx PP 125 cv57 cv6 (fun a=>Dy a.1 a.2):=
 have b:CutIs ctx PP 125 Tryz.f125 [] [] cv6 ZAS (IAA):=fun _ s=>by cases s <;> kernel_rfl
 have e:EntryIs ctx PP 125 [] [] cv57 cv6 ZAS (fun k a=>PAK k a.1 a.2):=fun _ a=>by kernel_rfl
 fn_ok hl_nil Tryz.func125 (fun s s' h=>by cases s;cases s';cases h;rfl) (fun _=>rfl) (fun _ _=>rfl) b e gas
noncomputable def WAd {γ:Type} (F:OAK):Hd ctx γ:=hdl cv57.dec (fun a=>F a.1 a.2) cv6.enc
abbrev QAK:=SBook→SBook→Option Bool
noncomputable def RAK (z0:OAK) (a_0:SBook) (b_1:SBook):Option Bool:=
 bif ((ByteArray.toList a_0.fWord) == (ByteArray.toList b_1.fWord)) then
 bif (a_0.fTries == b_1.fTries) then
  (z0 a_0.fThings b_1.fThings).bind fun r0=>
  bif r0 then
  bif (a_0.fLast == b_1.fLast) then
   bif ((ByteArray.toList a_0.fChain) == (ByteArray.toList b_1.fChain)) then
   some (a_0.fCount == b_1.fCount)
   else
   some false
  else
   some false
  else
  some false
 else
  some false
 else
 some false
noncomputable def Ey:QAK:=RAK Dy
theorem XAd:Tells ctx PP 61 cv58 cv6 (fun a=>Ey a.1 a.2):=fn_ok0 (hc VAd hl_nil) Tryz.func61 ((fun z0 a=>by kernel_rfl:∀ z0,EntryIs0 ctx PP 61 [] [(125,WAd z0)] cv58 cv6 fun a=>RAK z0 a.1 a.2) Dy)
noncomputable def YAd {γ:Type} (F:QAK):Hd ctx γ:=hdl cv58.dec (fun a=>F a.1 a.2) cv6.enc
abbrev JAA:=SDisk→ByteArray→Option Int
inductive Gy where
 | c0 (name_1:ByteArray) (v_8:(List SFile)) (v_9:Int) (v_10:Int)
noncomputable def AAT:Gy→LI
 | .c0 name_1 v_8 v_9 v_10=>(tdo Tryz.f128 104,[(1,[.one (.str name_1)]),(8,[.one (.rsl 155 v_8)]),(9,[.one (.int .i64 v_9)]),(10,[.one (.int .i64 v_10)])],[])
noncomputable def SAK (k:Gy→Option Int) (d_0:SDisk) (name_1:ByteArray):Option Int:=
 k (.c0 name_1 d_0.fFiles (d_0.fFiles.length:Int) 0)
noncomputable def KAA (k:Gy→Option Int):Gy→Option Int
 | .c0 name_1 v_8 v_9 v_10=>
 bif (decide (v_10<v_9)) then
  bif ((decide (0≤v_10)) && (decide (v_10<(v_8.length:Int)))) then
  bif ((ByteArray.toList (v_8.getD v_10.toNat (⟨⟨#[]⟩,⟨#[]⟩,0⟩:SFile)).fName) == (ByteArray.toList name_1)) then
  some v_10
  else
  k (.c0 name_1 v_8 v_9 (w64 (v_10+1)))
  else none
 else
  some (-(1:Int))
noncomputable def Hy:Nat→Gy→Option Int
 | 0,_=>none
 | m+1,s=>KAA (Hy m) s
noncomputable def Nj:JAA:=SAK (Hy gas)
theorem BAT:Tells ctx PP 128 cv36 cv15 (fun a=>Nj a.1 a.2):=
 have b:CutIs ctx PP 128 Tryz.f128 [] [] cv15 AAT (KAA):=fun _ s=>by cases s <;> kernel_rfl
 have e:EntryIs ctx PP 128 [] [] cv36 cv15 AAT (fun k a=>SAK k a.1 a.2):=fun _ a=>by kernel_rfl
 fn_ok hl_nil Tryz.func128 (fun s s' h=>by cases s;cases s';cases h;rfl) (fun _=>rfl) (fun _ _=>rfl) b e gas
noncomputable def CAT {γ:Type} (F:JAA):Hd ctx γ:=hdl cv36.dec (fun a=>F a.1 a.2) cv15.enc
abbrev TAK:=SDisk→ByteArray→Option (ByteArray×Bool)
noncomputable def UAK (z0:JAA) (d_0:SDisk) (name_1:ByteArray):Option (ByteArray×Bool):=
 (z0 d_0 name_1).bind fun r0=>
 bif (decide (r0<0)) then
 some (⟨#[]⟩,false)
 else
 bif ((decide (0≤r0)) && (decide (r0<(d_0.fFiles.length:Int)))) then
 some ((d_0.fFiles.getD r0.toNat (⟨⟨#[]⟩,⟨#[]⟩,0⟩:SFile)).fText,true)
 else none
noncomputable def Iy:TAK:=UAK Nj
theorem ZAd:Tells ctx PP 126 cv36 cv18 (fun a=>Iy a.1 a.2):=fn_ok0 (hc BAT hl_nil) Tryz.func126 ((fun z0 a=>by kernel_rfl:∀ z0,EntryIs0 ctx PP 126 [] [(128,CAT z0)] cv36 cv18 fun a=>UAK z0 a.1 a.2) Nj)
noncomputable def AAe {γ:Type} (F:TAK):Hd ctx γ:=hdl cv36.dec (fun a=>F a.1 a.2) cv18.enc
abbrev Oj:=ByteArray→Int→Option (Int×Int×Bool)
inductive Jy where
 | c0 (text_0:ByteArray) (at_1:Int) (n_7:Int) (k_8:Int)
noncomputable def DAT:Jy→LI
 | .c0 text_0 at_1 n_7 k_8=>(tdo Tryz.f202 976,[(0,[.one (.str text_0)]),(1,[.one (.int .i64 at_1)]),(7,[.one (.int .i64 n_7)]),(8,[.one (.int .i64 k_8)])],[])
noncomputable def Ky (z0:LZ) (k:Jy→Option (Int×Int×Bool)) (text_0:ByteArray) (at_1:Int):Option (Int×Int×Bool):=
 (z0 at_1 0 (text_0.size:Int)).bind fun r0=>
 bif (!r0) then
 some (0,(0,false))
 else
 k (.c0 text_0 at_1 0 0)
noncomputable def LAA (z0:LZ) (k:Jy→Option (Int×Int×Bool)):Jy→Option (Int×Int×Bool)
 | .c0 text_0 at_1 n_7 k_8=>
 bif (decide (k_8<5)) then
  bif (decide ((w64 (at_1+k_8))<(text_0.size:Int))) then
  bif ((decide (0≤(w64 (at_1+k_8)))) && (decide ((w64 (at_1+k_8))<(text_0.size:Int)))) then
  bif (decide (0≤(w64 (7*k_8)))) then
  bif (decide ((w64 (bt text_0 (w64 (at_1+k_8))))<128)) then
   bif ((w64 (bt text_0 (w64 (at_1+k_8)))) == 0) then
   bif (decide (k_8 > 0)) then
    some (0,(0,false))
   else
    bif (decide ((w64 (n_7+(w64 (((w64 (bt text_0 (w64 (at_1+k_8)))).tmod 128)*(2 ^ (Min.min (w64 (7*k_8)).toNat (IntKind.bits IntKind.i64))))))) > 1000000000)) then
    some (0,(0,false))
    else
    some ((w64 (n_7+(w64 (((w64 (bt text_0 (w64 (at_1+k_8)))).tmod 128)*(2 ^ (Min.min (w64 (7*k_8)).toNat (IntKind.bits IntKind.i64))))))),((w64 ((w64 (at_1+k_8))+1)),true))
   else
   bif (decide ((w64 (n_7+(w64 (((w64 (bt text_0 (w64 (at_1+k_8)))).tmod 128)*(2 ^ (Min.min (w64 (7*k_8)).toNat (IntKind.bits IntKind.i64))))))) > 1000000000)) then
    some (0,(0,false))
   else
    some ((w64 (n_7+(w64 (((w64 (bt text_0 (w64 (at_1+k_8)))).tmod 128)*(2 ^ (Min.min (w64 (7*k_8)).toNat (IntKind.bits IntKind.i64))))))),((w64 ((w64 (at_1+k_8))+1)),true))
  else
   k (.c0 text_0 at_1 (w64 (n_7+(w64 (((w64 (bt text_0 (w64 (at_1+k_8)))).tmod 128)*(2 ^ (Min.min (w64 (7*k_8)).toNat (IntKind.bits IntKind.i64))))))) (w64 (k_8+1)))
  else none
  else none
  else
  some (0,(0,false))
 else
  some (0,(0,false))
noncomputable def Td:Nat→Jy→Option (Int×Int×Bool)
 | 0,_=>none
 | m+1,s=>LAA WX (Td m) s
noncomputable def RY:Oj:=Ky WX (Td gas)
theorem MAA:Tells ctx PP 202 cv7 cv105 (fun a=>RY a.1 a.2):=
 have b:∀ z0,CutIs ctx PP 202 Tryz.f202 [] [(60,Fa z0)] cv105 DAT (LAA z0):=fun z0 _ s=>by cases s <;> kernel_rfl
 have e:∀ z0,EntryIs ctx PP 202 [] [(60,Fa z0)] cv7 cv105 DAT (fun k a=>Ky z0 k a.1 a.2):=fun z0 _ a=>by kernel_rfl
 fn_ok (hc Ze hl_nil) Tryz.func202 (fun s s' h=>by cases s;cases s';cases h;rfl) (fun _=>rfl) (fun _ _=>rfl) (b WX) (e WX) gas
noncomputable def Ny {γ:Type} (F:Oj):Hd ctx γ:=hdl cv7.dec (fun a=>F a.1 a.2) cv105.enc
abbrev VAK:=Int→ByteArray→Option Int
inductive Oy where
 | c0 (sum_0:Int) (text_1:ByteArray) (i_5:Int)
 | c1 (sum_0:Int) (text_1:ByteArray) (i_5:Int) (v_19:Int)
noncomputable def EAT:Oy→LI
 | .c0 sum_0 text_1 i_5=>(tdo Tryz.f211 208,[(0,[.one (.int .u32 sum_0)]),(1,[.one (.str text_1)]),(5,[.one (.int .i64 i_5)])],[])
 | .c1 sum_0 text_1 i_5 v_19=>(tdo Tryz.f211 13464,[(0,[.one (.int .u32 sum_0)]),(1,[.one (.str text_1)]),(5,[.one (.int .i64 i_5)]),(19,[.one (.int .i64 v_19)])],[])
noncomputable def WAK (k:Oy→Option Int) (sum_0:Int) (text_1:ByteArray):Option Int:=
 k (.c0 sum_0 text_1 0)
noncomputable def Zm (k:Oy→Option Int):Oy→Option Int
 | .c0 sum_0 text_1 i_5=>
 bif (decide (i_5<(text_1.size:Int))) then
  bif ((decide (0≤i_5)) && (decide (i_5<(text_1.size:Int)))) then
  k (.c1 (w32 (((BitVec.toNat ((BitVec.ofInt (IntKind.bits IntKind.u32) sum_0) ^^^ (BitVec.ofInt (IntKind.bits IntKind.u32) (w32 (bt text_1 i_5))))):Nat):Int)) text_1 i_5 0)
  else none
 else
  some sum_0
 | .c1 sum_0 text_1 i_5 v_19=>
 bif (decide (v_19<8)) then
  bif ((w32 (((BitVec.toNat ((BitVec.ofInt (IntKind.bits IntKind.u32) sum_0) &&& (BitVec.ofInt (IntKind.bits IntKind.u32) 1))):Nat):Int)) == 1) then
  k (.c1 (w32 (((BitVec.toNat ((BitVec.ofInt (IntKind.bits IntKind.u32) (Int.fdiv sum_0 (2 ^ (Min.min (1:Int).toNat (IntKind.bits IntKind.u32))))) ^^^ (BitVec.ofInt (IntKind.bits IntKind.u32) 3558460437))):Nat):Int)) text_1 i_5 (w64 (v_19+1)))
  else
  k (.c1 (Int.fdiv sum_0 (2 ^ (Min.min (1:Int).toNat (IntKind.bits IntKind.u32)))) text_1 i_5 (w64 (v_19+1)))
 else
  k (.c0 sum_0 text_1 (w64 (i_5+1)))
noncomputable def Bf:Nat→Oy→Option Int
 | 0,_=>none
 | m+1,s=>Zm (Bf m) s
noncomputable def Py:VAK:=WAK (Bf gas)
theorem BAe:Tells ctx PP 211 cv32 cv8 (fun a=>Py a.1 a.2):=
 have b:CutIs ctx PP 211 Tryz.f211 [] [] cv8 EAT (Zm):=fun _ s=>by cases s <;> kernel_rfl
 have e:EntryIs ctx PP 211 [] [] cv32 cv8 EAT (fun k a=>WAK k a.1 a.2):=fun _ a=>by kernel_rfl
 fn_ok hl_nil Tryz.func211 (fun s s' h=>by cases s <;> cases s' <;> first | (cases h;done) | (cases h;rfl) | exact (rg_ne h (by kernel_rfl)).elim) (fun _=>rfl) (fun _ _=>rfl) b e gas
noncomputable def CAe {γ:Type} (F:VAK):Hd ctx γ:=hdl cv32.dec (fun a=>F a.1 a.2) cv8.enc
abbrev Qy:=ByteArray→Option Int
noncomputable def XAK (z0:VAK) (text_0:ByteArray):Option Int:=
 (z0 4294967295 text_0).bind fun r0=>
 some r0
noncomputable def Df:Qy:=XAK Py
theorem FAT:Tells ctx PP 192 cv3 cv8 (fun a=>Df a):=fn_ok0 (hc BAe hl_nil) Tryz.func192 ((fun z0 a=>by kernel_rfl:∀ z0,EntryIs0 ctx PP 192 [] [(211,CAe z0)] cv3 cv8 fun a=>XAK z0 a) Py)
noncomputable def YAK {γ:Type} (F:Qy):Hd ctx γ:=hdl cv3.dec (fun a=>F a) cv8.enc
abbrev NAA:=ByteArray→Option ((List ByteArray)×Int)
inductive Ry where
 | c0 (file_0:ByteArray) (at_5:Int) (out_4:(List ByteArray))
noncomputable def GAT:Ry→LI
 | .c0 file_0 at_5 out_4=>(tdo Tryz.f169 496,[(0,[.one (.str file_0)]),(4,[.one (.own 304)]),(5,[.one (.int .i64 at_5)])],[(304,.sl 9 out_4)])
noncomputable def ZAK (z0:Oj) (z1:LZ) (z2:Qy) (z3:Fg) (k:Ry→Option ((List ByteArray)×Int)) (file_0:ByteArray):Option ((List ByteArray)×Int):=
 bif (decide ((file_0.size:Int) > 20000)) then
 some ([],0)
 else
 k (.c0 file_0 0 [])
noncomputable def AAL (z0:Oj) (z1:LZ) (z2:Qy) (z3:Fg) (k:Ry→Option ((List ByteArray)×Int)):Ry→Option ((List ByteArray)×Int)
 | .c0 file_0 at_5 out_4=>
 (z0 file_0 at_5).bind fun r0=>
 bif (!r0.2.2) then
  some (out_4,at_5)
 else
  (z1 r0.1 1 9000).bind fun r1=>
  bif (!r1) then
  some (out_4,at_5)
  else
  bif (decide (r0.1 > (w64 ((w64 ((file_0.size:Int) - r0.2.1)) - 4)))) then
   some (out_4,at_5)
  else
   bif (((decide (0≤(w64 (r0.2.1+4)))) && (decide ((w64 (r0.2.1+4))≤(w64 ((w64 (r0.2.1+4))+r0.1))))) && (decide ((w64 ((w64 (r0.2.1+4))+r0.1))≤(file_0.size:Int)))) then
   bif (((decide (0≤r0.2.1)) && (decide (r0.2.1≤(w64 (r0.2.1+4))))) && (decide ((w64 (r0.2.1+4))≤(file_0.size:Int)))) then
   (z2 (file_0.extract (w64 (r0.2.1+4)).toNat (w64 ((w64 (r0.2.1+4))+r0.1)).toNat)).bind fun r2=>
   (z3 r2).bind fun r3=>
   bif (!((ByteArray.toList (file_0.extract r0.2.1.toNat (w64 (r0.2.1+4)).toNat)) == (ByteArray.toList r3))) then
   some (out_4,at_5)
   else
   bif (decide (((out_4.length+1)*16)≤140737488355328)) then
   k (.c0 file_0 (w64 ((w64 (r0.2.1+4))+r0.1)) (out_4++[(file_0.extract (w64 (r0.2.1+4)).toNat (w64 ((w64 (r0.2.1+4))+r0.1)).toNat)]))
   else none
   else none
   else none
noncomputable def OAA:Nat→Ry→Option ((List ByteArray)×Int)
 | 0,_=>none
 | m+1,s=>AAL RY WX Df WZ (OAA m) s
noncomputable def Pj:NAA:=ZAK RY WX Df WZ (OAA gas)
theorem DAe:Tells ctx PP 169 cv3 cv106 (fun a=>Pj a):=
 have b:∀ z0 z1 z2 z3,CutIs ctx PP 169 Tryz.f169 [] [(202,Ny z0),(60,Fa z1),(192,YAK z2),(158,Lm z3)] cv106 GAT (AAL z0 z1 z2 z3):=fun z0 z1 z2 z3 _ s=>by cases s <;> kernel_rfl
 have e:∀ z0 z1 z2 z3,EntryIs ctx PP 169 [] [(202,Ny z0),(60,Fa z1),(192,YAK z2),(158,Lm z3)] cv3 cv106 GAT (fun k a=>ZAK z0 z1 z2 z3 k a):=fun z0 z1 z2 z3 _ a=>by kernel_rfl
 fn_ok (hc MAA (hc Ze (hc FAT (hc P9 hl_nil)))) Tryz.func169 (fun s s' h=>by cases s;cases s';cases h;rfl) (fun _=>rfl) (fun _ _=>rfl) (b RY WX Df WZ) (e RY WX Df WZ) gas
noncomputable def IAT {γ:Type} (F:NAA):Hd ctx γ:=hdl cv3.dec (fun a=>F a) cv106.enc
abbrev PAA:=Int→Option (ByteArray×Bool)
noncomputable def BAL (z0:LZ) (z1:Hg) (n_0:Int):Option (ByteArray×Bool):=
 (z0 n_0 0 1000000000).bind fun r0=>
 bif (!r0) then
 some (⟨#[]⟩,false)
 else
 (z1 n_0).bind fun r1=>
 some (r1,true)
noncomputable def Qj:PAA:=BAL WX Ea
theorem EAe:Tells ctx PP 209 cv15 cv18 (fun a=>Qj a):=fn_ok0 (hc Ze (hc Qm hl_nil)) Tryz.func209 ((fun z0 z1 a=>by kernel_rfl:∀ z0 z1,EntryIs0 ctx PP 209 [] [(60,Fa z0),(186,Sm z1)] cv15 cv18 fun a=>BAL z0 z1 a) WX Ea)
noncomputable def JAT {γ:Type} (F:PAA):Hd ctx γ:=hdl cv15.dec (fun a=>F a) cv18.enc
abbrev CAL:=ByteArray→Int→Option ByteArray
inductive Uy where
 | c0 (x_1:Int) (v_10:Int) (v_11:Int) (out_5:(List Int))
noncomputable def KAT:Uy→LI
 | .c0 x_1 v_10 v_11 out_5=>(tdo Tryz.f217 232,[(1,[.one (.int .u8 x_1)]),(5,[.one (.own 368)]),(10,[.one (.int .i64 v_10)]),(11,[.one (.int .i64 v_11)])],[(368,.sl 5 out_5)])
noncomputable def DAL (k:Uy→Option ByteArray) (s_0:ByteArray) (x_1:Int):Option ByteArray:=
 bif (decide (s_0.size≤9223372036854775807)) then
 k (.c0 x_1 ((bytesOf s_0).length:Int) 0 (bytesOf s_0))
 else none
noncomputable def QAA (k:Uy→Option ByteArray):Uy→Option ByteArray
 | .c0 x_1 v_10 v_11 out_5=>
 bif (decide (v_11<v_10)) then
  bif ((decide (0≤v_11)) && (decide (v_11<(out_5.length:Int)))) then
  bif ((decide (0≤v_11)) && (decide (v_11<(out_5.length:Int)))) then
  k (.c0 x_1 v_10 (w64 (v_11+1)) (out_5.set v_11.toNat (w8 (((BitVec.toNat ((BitVec.ofInt (IntKind.bits IntKind.u8) (out_5.getD v_11.toNat 0)) ^^^ (BitVec.ofInt (IntKind.bits IntKind.u8) x_1))):Nat):Int))))
  else none
  else none
 else
  some (ofBytes out_5)
noncomputable def Vy:Nat→Uy→Option ByteArray
 | 0,_=>none
 | m+1,s=>QAA (Vy m) s
noncomputable def Rj:CAL:=DAL (Vy gas)
theorem FAe:Tells ctx PP 217 cv28 cv3 (fun a=>Rj a.1 a.2):=
 have b:CutIs ctx PP 217 Tryz.f217 [] [] cv3 KAT (QAA):=fun _ s=>by cases s <;> kernel_rfl
 have e:EntryIs ctx PP 217 [] [] cv28 cv3 KAT (fun k a=>DAL k a.1 a.2):=fun _ a=>by kernel_rfl
 fn_ok hl_nil Tryz.func217 (fun s s' h=>by cases s;cases s';cases h;rfl) (fun _=>rfl) (fun _ _=>rfl) b e gas
noncomputable def GAe {γ:Type} (F:CAL):Hd ctx γ:=hdl cv28.dec (fun a=>F a.1 a.2) cv3.enc
abbrev Wy:=ByteArray→ByteArray→Option ByteArray
noncomputable def EAL (z0:Uw) (z1:Zv) (z2:CAL) (key_0:ByteArray) (s_1:ByteArray):Option ByteArray:=
 bif (decide ((key_0.size:Int) > 64)) then
 (z0 key_0).bind fun r0=>
 (z1 (w64 (64 - (r0.size:Int)))).bind fun r1=>
 bif (decide ((r0.size+r1.size)≤9223372036854775807)) then
 (z2 (r0++r1) 92).bind fun r2=>
 (z2 (r0++r1) 54).bind fun r3=>
 bif (decide ((r3.size+s_1.size)≤9223372036854775807)) then
 (z0 (r3++s_1)).bind fun r4=>
 bif (decide ((r2.size+r4.size)≤9223372036854775807)) then
 (z0 (r2++r4)).bind fun r5=>
 some r5
 else none
 else none
 else none
 else
 (z1 (w64 (64 - (key_0.size:Int)))).bind fun r6=>
 bif (decide ((key_0.size+r6.size)≤9223372036854775807)) then
 (z2 (key_0++r6) 92).bind fun r7=>
 (z2 (key_0++r6) 54).bind fun r8=>
 bif (decide ((r8.size+s_1.size)≤9223372036854775807)) then
 (z0 (r8++s_1)).bind fun r9=>
 bif (decide ((r7.size+r9.size)≤9223372036854775807)) then
 (z0 (r7++r9)).bind fun r10=>
 some r10
 else none
 else none
 else none
noncomputable def Ef:Wy:=EAL Bc Qd Rj
theorem LAT:Tells ctx PP 210 cv29 cv3 (fun a=>Ef a.1 a.2):=fn_ok0 (hc QAJ (hc ZAI (hc FAe hl_nil))) Tryz.func210 ((fun z0 z1 z2 a=>by kernel_rfl:∀ z0 z1 z2,EntryIs0 ctx PP 210 [] [(32,RAJ z0),(99,AAJ z1),(217,GAe z2)] cv29 cv3 fun a=>EAL z0 z1 z2 a.1 a.2) Bc Qd Rj)
noncomputable def FAL {γ:Type} (F:Wy):Hd ctx γ:=hdl cv29.dec (fun a=>F a.1 a.2) cv3.enc
abbrev GAL:=ByteArray→Int→Int→Option (ByteArray×Bool)
inductive Xy where
 | c0 (key_0:ByteArray) (n_2:Int) (v_8:ByteArray) (out_10:ByteArray) (i_11:Int)
noncomputable def MAT:Xy→LI
 | .c0 key_0 n_2 v_8 out_10 i_11=>(tdo Tryz.f189 2000,[(0,[.one (.str key_0)]),(2,[.one (.int .i64 n_2)]),(8,[.one (.str v_8)]),(10,[.one (.str out_10)]),(11,[.one (.int .i64 i_11)])],[])
noncomputable def HAL (z0:PAA) (z1:LZ) (z2:Um) (z3:Wy) (k:Xy→Option (ByteArray×Bool)) (key_0:ByteArray) (num_1:Int) (n_2:Int):Option (ByteArray×Bool):=
 (z0 num_1).bind fun r0=>
 bif (!r0.2) then
 some (⟨#[]⟩,false)
 else
 (z1 n_2 0 8000).bind fun r1=>
 bif (!r1) then
  some (⟨#[]⟩,false)
 else
  k (.c0 key_0 n_2 r0.1 ⟨#[]⟩ 0)
noncomputable def RAA (z0:PAA) (z1:LZ) (z2:Um) (z3:Wy) (k:Xy→Option (ByteArray×Bool)):Xy→Option (ByteArray×Bool)
 | .c0 key_0 n_2 v_8 out_10 i_11=>
 bif (decide ((out_10.size:Int)<n_2)) then
  bif (decide (((⟨#[109]⟩:ByteArray).size+v_8.size)≤9223372036854775807)) then
  (z2 i_11).bind fun r0=>
  bif (decide ((((⟨#[109]⟩:ByteArray)++v_8).size+r0.size)≤9223372036854775807)) then
  (z3 key_0 (((⟨#[109]⟩:ByteArray)++v_8)++r0)).bind fun r1=>
  bif (decide ((out_10.size+r1.size)≤9223372036854775807)) then
  k (.c0 key_0 n_2 v_8 (out_10++r1) (w64 (i_11+1)))
  else none
  else none
  else none
 else
  bif ((decide (0≤n_2)) && (decide (n_2≤(out_10.size:Int)))) then
  some ((out_10.extract 0 n_2.toNat),true)
  else none
noncomputable def Yy:Nat→Xy→Option (ByteArray×Bool)
 | 0,_=>none
 | m+1,s=>RAA Qj WX Cc Ef (Yy m) s
noncomputable def Zy:GAL:=HAL Qj WX Cc Ef (Yy gas)
theorem HAe:Tells ctx PP 189 cv30 cv18 (fun a=>Zy a.1 a.2.1 a.2.2):=
 have b:∀ z0 z1 z2 z3,CutIs ctx PP 189 Tryz.f189 [] [(209,JAT z0),(60,Fa z1),(188,Z9 z2),(210,FAL z3)] cv18 MAT (RAA z0 z1 z2 z3):=fun z0 z1 z2 z3 _ s=>by cases s <;> kernel_rfl
 have e:∀ z0 z1 z2 z3,EntryIs ctx PP 189 [] [(209,JAT z0),(60,Fa z1),(188,Z9 z2),(210,FAL z3)] cv30 cv18 MAT (fun k a=>HAL z0 z1 z2 z3 k a.1 a.2.1 a.2.2):=fun z0 z1 z2 z3 _ a=>by kernel_rfl
 fn_ok (hc EAe (hc Ze (hc YAJ (hc LAT hl_nil)))) Tryz.func189 (fun s s' h=>by cases s;cases s';cases h;rfl) (fun _=>rfl) (fun _ _=>rfl) (b Qj WX Cc Ef) (e Qj WX Cc Ef) gas
noncomputable def IAe {γ:Type} (F:GAL):Hd ctx γ:=hdl cv30.dec (fun a=>F a.1 a.2.1 a.2.2) cv18.enc
abbrev IAL:=ByteArray→Int→ByteArray→Option ByteArray
noncomputable def JAL (z0:Hg) (z1:Wy) (key_0:ByteArray) (num_1:Int) (s_2:ByteArray):Option ByteArray:=
 (z0 num_1).bind fun r0=>
 bif (decide (((⟨#[116]⟩:ByteArray).size+r0.size)≤9223372036854775807)) then
 bif (decide ((((⟨#[116]⟩:ByteArray)++r0).size+s_2.size)≤9223372036854775807)) then
 (z1 key_0 (((⟨#[116]⟩:ByteArray)++r0)++s_2)).bind fun r1=>
 bif ((decide ((0:Int)≤(16:Int))) && (decide (16≤(r1.size:Int)))) then
 some (r1.extract 0 (16:Int).toNat)
 else none
 else none
 else none
noncomputable def Az:IAL:=JAL Ea Ef
theorem JAe:Tells ctx PP 191 cv31 cv3 (fun a=>Az a.1 a.2.1 a.2.2):=fn_ok0 (hc Qm (hc LAT hl_nil)) Tryz.func191 ((fun z0 z1 a=>by kernel_rfl:∀ z0 z1,EntryIs0 ctx PP 191 [] [(186,Sm z0),(210,FAL z1)] cv31 cv3 fun a=>JAL z0 z1 a.1 a.2.1 a.2.2) Ea Ef)
noncomputable def KAe {γ:Type} (F:IAL):Hd ctx γ:=hdl cv31.dec (fun a=>F a.1 a.2.1 a.2.2) cv3.enc
abbrev KAL:=ByteArray→ByteArray→Option ByteArray
inductive Bz where
 | c0 (b_1:ByteArray) (v_10:Int) (v_11:Int) (out_5:(List Int))
noncomputable def NAT:Bz→LI
 | .c0 b_1 v_10 v_11 out_5=>(tdo Tryz.f190 232,[(1,[.one (.str b_1)]),(5,[.one (.own 368)]),(10,[.one (.int .i64 v_10)]),(11,[.one (.int .i64 v_11)])],[(368,.sl 5 out_5)])
noncomputable def LAL (k:Bz→Option ByteArray) (a_0:ByteArray) (b_1:ByteArray):Option ByteArray:=
 bif (decide (a_0.size≤9223372036854775807)) then
 k (.c0 b_1 ((bytesOf a_0).length:Int) 0 (bytesOf a_0))
 else none
noncomputable def SAA (k:Bz→Option ByteArray):Bz→Option ByteArray
 | .c0 b_1 v_10 v_11 out_5=>
 bif (decide (v_11<v_10)) then
  bif ((decide (0≤v_11)) && (decide (v_11<(out_5.length:Int)))) then
  bif ((decide (0≤v_11)) && (decide (v_11<(b_1.size:Int)))) then
  bif ((decide (0≤v_11)) && (decide (v_11<(out_5.length:Int)))) then
  k (.c0 b_1 v_10 (w64 (v_11+1)) (out_5.set v_11.toNat (w8 (((BitVec.toNat ((BitVec.ofInt (IntKind.bits IntKind.u8) (out_5.getD v_11.toNat 0)) ^^^ (BitVec.ofInt (IntKind.bits IntKind.u8) (bt b_1 v_11)))):Nat):Int))))
  else none
  else none
  else none
 else
  some (ofBytes out_5)
noncomputable def Dz:Nat→Bz→Option ByteArray
 | 0,_=>none
 | m+1,s=>SAA (Dz m) s
noncomputable def Ez:KAL:=LAL (Dz gas)
theorem LAe:Tells ctx PP 190 cv29 cv3 (fun a=>Ez a.1 a.2):=
 have b:CutIs ctx PP 190 Tryz.f190 [] [] cv3 NAT (SAA):=fun _ s=>by cases s <;> kernel_rfl
 have e:EntryIs ctx PP 190 [] [] cv29 cv3 NAT (fun k a=>LAL k a.1 a.2):=fun _ a=>by kernel_rfl
 fn_ok hl_nil Tryz.func190 (fun s s' h=>by cases s;cases s';cases h;rfl) (fun _=>rfl) (fun _ _=>rfl) b e gas
noncomputable def MAe {γ:Type} (F:KAL):Hd ctx γ:=hdl cv29.dec (fun a=>F a.1 a.2) cv3.enc
abbrev TAA:=ByteArray→Int→ByteArray→Option (ByteArray×Bool)
noncomputable def MAL (z0:GAL) (z1:IAL) (z2:KAL) (key_0:ByteArray) (num_1:Int) (text_2:ByteArray):Option (ByteArray×Bool):=
 bif (decide ((w64 ((text_2.size:Int) - 16))<0)) then
 some (⟨#[]⟩,false)
 else
 (z0 key_0 num_1 (w64 ((text_2.size:Int) - 16))).bind fun r0=>
 bif (!r0.2) then
  some (⟨#[]⟩,false)
 else
  bif ((decide (0≤(w64 ((text_2.size:Int) - 16)))) && (decide ((w64 ((text_2.size:Int) - 16))≤(text_2.size:Int)))) then
  (z1 key_0 num_1 (text_2.extract 0 (w64 ((text_2.size:Int) - 16)).toNat)).bind fun r1=>
  bif ((decide (0≤(w64 ((text_2.size:Int) - 16)))) && (decide ((w64 ((text_2.size:Int) - 16))≤(text_2.size:Int)))) then
  bif (!((ByteArray.toList r1) == (ByteArray.toList (text_2.extract (w64 ((text_2.size:Int) - 16)).toNat text_2.size)))) then
  some (⟨#[]⟩,false)
  else
  bif ((decide (0≤(w64 ((text_2.size:Int) - 16)))) && (decide ((w64 ((text_2.size:Int) - 16))≤(text_2.size:Int)))) then
  (z2 (text_2.extract 0 (w64 ((text_2.size:Int) - 16)).toNat) r0.1).bind fun r2=>
  some (r2,true)
  else none
  else none
  else none
noncomputable def Sj:TAA:=MAL Zy Az Ez
theorem NAe:Tells ctx PP 170 cv31 cv18 (fun a=>Sj a.1 a.2.1 a.2.2):=fn_ok0 (hc HAe (hc JAe (hc LAe hl_nil))) Tryz.func170 ((fun z0 z1 z2 a=>by kernel_rfl:∀ z0 z1 z2,EntryIs0 ctx PP 170 [] [(189,IAe z0),(191,KAe z1),(190,MAe z2)] cv31 cv18 fun a=>MAL z0 z1 z2 a.1 a.2.1 a.2.2) Zy Az Ez)
noncomputable def OAT {γ:Type} (F:TAA):Hd ctx γ:=hdl cv31.dec (fun a=>F a.1 a.2.1 a.2.2) cv18.enc
abbrev NAL:=SFields→Option (Int×SFields)
noncomputable def UAA (z0:Oj) (f_0:SFields):Option (Int×SFields):=
 (z0 f_0.fText f_0.fAt).bind fun r0=>
 bif (!r0.2.2) then
 some (0,⟨f_0.fText,f_0.fAt,true⟩)
 else
 some (r0.1,⟨f_0.fText,r0.2.1,f_0.fBad⟩)
noncomputable def Ig:NAL:=UAA RY
theorem OAe:Tells ctx PP 214 cv117 cv118 (fun a=>Ig a):=fn_ok0 (hc MAA hl_nil) Tryz.func214 ((fun z0 a=>by kernel_rfl:∀ z0,EntryIs0 ctx PP 214 [0] [(202,Ny z0)] cv117 cv118 fun a=>UAA z0 a) RY)
noncomputable def PAe {γ:Type} (F:NAL):Hd ctx γ:=hdl cv117.dec (fun a=>F a) cv118.enc
abbrev OAL:=ByteArray→Int→Option (ByteArray×Int×Bool)
noncomputable def VAA (z0:Oj) (text_0:ByteArray) (at_1:Int):Option (ByteArray×Int×Bool):=
 (z0 text_0 at_1).bind fun r0=>
 bif (!r0.2.2) then
 some (⟨#[]⟩,(0,false))
 else
 bif (decide (r0.1 > 20000)) then
  some (⟨#[]⟩,(0,false))
 else
  bif (decide (r0.1 > (w64 ((text_0.size:Int) - r0.2.1)))) then
  some (⟨#[]⟩,(0,false))
  else
  bif (((decide (0≤r0.2.1)) && (decide (r0.2.1≤(w64 (r0.2.1+r0.1))))) && (decide ((w64 (r0.2.1+r0.1))≤(text_0.size:Int)))) then
  some ((text_0.extract r0.2.1.toNat (w64 (r0.2.1+r0.1)).toNat),((w64 (r0.2.1+r0.1)),true))
  else none
noncomputable def Tj:OAL:=VAA RY
theorem QAe:Tells ctx PP 218 cv7 cv119 (fun a=>Tj a.1 a.2):=fn_ok0 (hc MAA hl_nil) Tryz.func218 ((fun z0 a=>by kernel_rfl:∀ z0,EntryIs0 ctx PP 218 [] [(202,Ny z0)] cv7 cv119 fun a=>VAA z0 a.1 a.2) RY)
noncomputable def RAe {γ:Type} (F:OAL):Hd ctx γ:=hdl cv7.dec (fun a=>F a.1 a.2) cv119.enc
abbrev PAL:=SFields→Option (ByteArray×SFields)
noncomputable def WAA (z0:OAL) (f_0:SFields):Option (ByteArray×SFields):=
 (z0 f_0.fText f_0.fAt).bind fun r0=>
 bif (!r0.2.2) then
 some (⟨#[]⟩,⟨f_0.fText,f_0.fAt,true⟩)
 else
 some (r0.1,⟨f_0.fText,r0.2.1,f_0.fBad⟩)
noncomputable def Uj:PAL:=WAA Tj
theorem SAe:Tells ctx PP 215 cv117 cv120 (fun a=>Uj a):=fn_ok0 (hc QAe hl_nil) Tryz.func215 ((fun z0 a=>by kernel_rfl:∀ z0,EntryIs0 ctx PP 215 [0] [(218,RAe z0)] cv117 cv120 fun a=>WAA z0 a) Tj)
noncomputable def TAe {γ:Type} (F:PAL):Hd ctx γ:=hdl cv117.dec (fun a=>F a) cv120.enc
abbrev QAL:=ByteArray→Option (SThing×Bool)
noncomputable def XAA (z0:NAL) (z1:PAL) (z2:AAA) (text_0:ByteArray):Option (SThing×Bool):=
 (z0 ⟨text_0,0,false⟩).bind fun r0=>
 (z0 r0.2).bind fun r1=>
 (z0 r1.2).bind fun r2=>
 (z1 r2.2).bind fun r3=>
 (z0 r3.2).bind fun r4=>
 (z2 ⟨r0.1,r1.1,((w64 (((BitVec.toNat ((BitVec.ofInt (IntKind.bits IntKind.i64) r2.1) &&& (BitVec.ofInt (IntKind.bits IntKind.i64) 1))):Nat):Int)) != 0),((w64 (((BitVec.toNat ((BitVec.ofInt (IntKind.bits IntKind.i64) r2.1) &&& (BitVec.ofInt (IntKind.bits IntKind.i64) 2))):Nat):Int)) != 0),((w64 (((BitVec.toNat ((BitVec.ofInt (IntKind.bits IntKind.i64) r2.1) &&& (BitVec.ofInt (IntKind.bits IntKind.i64) 4))):Nat):Int)) != 0),((w64 (((BitVec.toNat ((BitVec.ofInt (IntKind.bits IntKind.i64) r2.1) &&& (BitVec.ofInt (IntKind.bits IntKind.i64) 8))):Nat):Int)) != 0),r3.1,r4.1⟩).bind fun r5=>
 bif r4.2.fBad then
 some (⟨0,0,false,false,false,false,⟨#[]⟩,0⟩,false)
 else
 bif (!r5.2) then
  some (⟨0,0,false,false,false,false,⟨#[]⟩,0⟩,false)
 else
  bif (!((ByteArray.toList r5.1) == (ByteArray.toList text_0))) then
  some (⟨0,0,false,false,false,false,⟨#[]⟩,0⟩,false)
  else
  some (⟨r0.1,r1.1,((w64 (((BitVec.toNat ((BitVec.ofInt (IntKind.bits IntKind.i64) r2.1) &&& (BitVec.ofInt (IntKind.bits IntKind.i64) 1))):Nat):Int)) != 0),((w64 (((BitVec.toNat ((BitVec.ofInt (IntKind.bits IntKind.i64) r2.1) &&& (BitVec.ofInt (IntKind.bits IntKind.i64) 2))):Nat):Int)) != 0),((w64 (((BitVec.toNat ((BitVec.ofInt (IntKind.bits IntKind.i64) r2.1) &&& (BitVec.ofInt (IntKind.bits IntKind.i64) 4))):Nat):Int)) != 0),((w64 (((BitVec.toNat ((BitVec.ofInt (IntKind.bits IntKind.i64) r2.1) &&& (BitVec.ofInt (IntKind.bits IntKind.i64) 8))):Nat):Int)) != 0),r3.1,r4.1⟩,true)
noncomputable def Jg:QAL:=XAA Ig Uj Gj
theorem UAe:Tells ctx PP 203 cv3 cv22 (fun a=>Jg a):=fn_ok0 (hc OAe (hc SAe (hc LAS hl_nil))) Tryz.func203 ((fun z0 z1 z2 a=>by kernel_rfl:∀ z0 z1 z2,EntryIs0 ctx PP 203 [] [(214,PAe z0),(215,TAe z1),(187,MAS z2)] cv3 cv22 fun a=>XAA z0 z1 z2 a) Ig Uj Gj)
noncomputable def VAe {γ:Type} (F:QAL):Hd ctx γ:=hdl cv3.dec (fun a=>F a) cv22.enc
abbrev YAA:=ByteArray→Option (SRec×Bool)
noncomputable def Vj (z0:QAL) (z1:Oj) (z2:BAA) (text_0:ByteArray):Option (SRec×Bool):=
 bif ((ByteArray.toList text_0) == (ByteArray.toList ⟨#[]⟩)) then
 some (⟨0,⟨#[]⟩,0,⟨0,0,false,false,false,false,⟨#[]⟩,0⟩⟩,false)
 else
 bif ((decide ((0:Int)≤(0:Int))) && (decide (0<(text_0.size:Int)))) then
 bif ((w64 (bt text_0 0)) == 1) then
  bif ((decide ((0:Int)≤(1:Int))) && (decide (1≤(text_0.size:Int)))) then
  (z2 ⟨(w64 (bt text_0 0)),(text_0.extract (1:Int).toNat text_0.size),0,⟨0,0,false,false,false,false,⟨#[]⟩,0⟩⟩).bind fun r0=>
  bif (!r0.2) then
  some (⟨0,⟨#[]⟩,0,⟨0,0,false,false,false,false,⟨#[]⟩,0⟩⟩,false)
  else
  bif (!((ByteArray.toList r0.1) == (ByteArray.toList text_0))) then
   some (⟨0,⟨#[]⟩,0,⟨0,0,false,false,false,false,⟨#[]⟩,0⟩⟩,false)
  else
   some (⟨(w64 (bt text_0 0)),(text_0.extract (1:Int).toNat text_0.size),0,⟨0,0,false,false,false,false,⟨#[]⟩,0⟩⟩,true)
  else none
 else
  bif ((w64 (bt text_0 0)) == 3) then
  bif ((decide ((0:Int)≤(1:Int))) && (decide (1≤(text_0.size:Int)))) then
  (z0 (text_0.extract (1:Int).toNat text_0.size)).bind fun r1=>
  (z2 ⟨(w64 (bt text_0 0)),⟨#[]⟩,0,r1.1⟩).bind fun r2=>
  bif (!r2.2) then
   some (⟨0,⟨#[]⟩,0,⟨0,0,false,false,false,false,⟨#[]⟩,0⟩⟩,false)
  else
   bif (!((ByteArray.toList r2.1) == (ByteArray.toList text_0))) then
   some (⟨0,⟨#[]⟩,0,⟨0,0,false,false,false,false,⟨#[]⟩,0⟩⟩,false)
   else
   some (⟨(w64 (bt text_0 0)),⟨#[]⟩,0,r1.1⟩,true)
  else none
  else
  (z1 text_0 1).bind fun r3=>
  (z2 ⟨(w64 (bt text_0 0)),⟨#[]⟩,r3.1,⟨0,0,false,false,false,false,⟨#[]⟩,0⟩⟩).bind fun r4=>
  bif (!r4.2) then
   some (⟨0,⟨#[]⟩,0,⟨0,0,false,false,false,false,⟨#[]⟩,0⟩⟩,false)
  else
   bif (!((ByteArray.toList r4.1) == (ByteArray.toList text_0))) then
   some (⟨0,⟨#[]⟩,0,⟨0,0,false,false,false,false,⟨#[]⟩,0⟩⟩,false)
   else
   some (⟨(w64 (bt text_0 0)),⟨#[]⟩,r3.1,⟨0,0,false,false,false,false,⟨#[]⟩,0⟩⟩,true)
 else none
noncomputable def Ia:YAA:=Vj Jg RY Ij
theorem WAe:Tells ctx PP 171 cv3 cv111 (fun a=>Ia a):=fn_ok0 (hc UAe (hc MAA (hc NAS hl_nil))) Tryz.func171 ((fun z0 z1 z2 a=>by kernel_rfl:∀ z0 z1 z2,EntryIs0 ctx PP 171 [] [(203,VAe z0),(202,Ny z1),(151,OAS z2)] cv3 cv111 fun a=>Vj z0 z1 z2 a) Jg RY Ij)
noncomputable def QAT {γ:Type} (F:YAA):Hd ctx γ:=hdl cv3.dec (fun a=>F a) cv111.enc
abbrev ZAA:=ByteArray→Option (ByteArray×Bool)
noncomputable def RAL (z0:LZ) (z1:Hg) (z2:Qy) (z3:Fg) (text_0:ByteArray):Option (ByteArray×Bool):=
 (z0 (text_0.size:Int) 1 9000).bind fun r0=>
 bif (!r0) then
 some (⟨#[]⟩,false)
 else
 (z1 (text_0.size:Int)).bind fun r1=>
 (z2 text_0).bind fun r2=>
 (z3 r2).bind fun r3=>
 bif (decide ((r1.size+r3.size)≤9223372036854775807)) then
 bif (decide (((r1++r3).size+text_0.size)≤9223372036854775807)) then
 some (((r1++r3)++text_0),true)
 else none
 else none
noncomputable def Wj:ZAA:=RAL WX Ea Df WZ
theorem XAe:Tells ctx PP 153 cv3 cv18 (fun a=>Wj a):=fn_ok0 (hc Ze (hc Qm (hc FAT (hc P9 hl_nil)))) Tryz.func153 ((fun z0 z1 z2 z3 a=>by kernel_rfl:∀ z0 z1 z2 z3,EntryIs0 ctx PP 153 [] [(60,Fa z0),(186,Sm z1),(192,YAK z2),(158,Lm z3)] cv3 cv18 fun a=>RAL z0 z1 z2 z3 a) WX Ea Df WZ)
noncomputable def TAT {γ:Type} (F:ZAA):Hd ctx γ:=hdl cv3.dec (fun a=>F a) cv18.enc
abbrev SAL:=ByteArray→ByteArray→Option ((List SRec)×Int)
inductive Fz where
 | c0 (key_0:ByteArray) (at_9:Int) (v_24:Int) (v_25:Int) (out_8:(List SRec)) (v_23:(List ByteArray))
noncomputable def UAT:Fz→LI
 | .c0 key_0 at_9 v_24 v_25 out_8 v_23=>(tdo Tryz.f127 1000,[(0,[.one (.str key_0)]),(8,[.one (.own 560)]),(9,[.one (.int .i64 at_9)]),(23,[.one (.own 1520)]),(24,[.one (.int .i64 v_24)]),(25,[.one (.int .i64 v_25)])],[(560,.sl 71 out_8),(1520,.sl 9 v_23)])
noncomputable def TAL (z0:NAA) (z1:TAA) (z2:YAA) (z3:ZAA) (k:Fz→Option ((List SRec)×Int)) (key_0:ByteArray) (file_1:ByteArray):Option ((List SRec)×Int):=
 (z0 file_1).bind fun r0=>
 k (.c0 key_0 0 (r0.1.length:Int) 0 [] r0.1)
noncomputable def AAB (z0:NAA) (z1:TAA) (z2:YAA) (z3:ZAA) (k:Fz→Option ((List SRec)×Int)):Fz→Option ((List SRec)×Int)
 | .c0 key_0 at_9 v_24 v_25 out_8 v_23=>
 bif (decide (v_25<v_24)) then
  bif ((decide (0≤v_25)) && (decide (v_25<(v_23.length:Int)))) then
  (z1 key_0 (w64 (v_25+1)) (v_23.getD v_25.toNat (⟨#[]⟩:ByteArray))).bind fun r0=>
  (z2 r0.1).bind fun r1=>
  bif (!r0.2) then
  some (out_8,at_9)
  else
  bif (!r1.2) then
   some (out_8,at_9)
  else
   bif (decide (((out_8.length+1)*80)≤140737488355328)) then
   (z3 (v_23.getD v_25.toNat (⟨#[]⟩:ByteArray))).bind fun r2=>
   k (.c0 key_0 (w64 (at_9+(r2.1.size:Int))) v_24 (w64 (v_25+1)) (out_8++[r1.1]) v_23)
   else none
  else none
 else
  some (out_8,at_9)
noncomputable def Gz:Nat→Fz→Option ((List SRec)×Int)
 | 0,_=>none
 | m+1,s=>AAB Pj Sj Ia Wj (Gz m) s
noncomputable def Hz:SAL:=TAL Pj Sj Ia Wj (Gz gas)
theorem YAe:Tells ctx PP 127 cv29 cv112 (fun a=>Hz a.1 a.2):=
 have b:∀ z0 z1 z2 z3,CutIs ctx PP 127 Tryz.f127 [] [(169,IAT z0),(170,OAT z1),(171,QAT z2),(153,TAT z3)] cv112 UAT (AAB z0 z1 z2 z3):=fun z0 z1 z2 z3 _ s=>by cases s <;> kernel_rfl
 have e:∀ z0 z1 z2 z3,EntryIs ctx PP 127 [] [(169,IAT z0),(170,OAT z1),(171,QAT z2),(153,TAT z3)] cv29 cv112 UAT (fun k a=>TAL z0 z1 z2 z3 k a.1 a.2):=fun z0 z1 z2 z3 _ a=>by kernel_rfl
 fn_ok (hc DAe (hc NAe (hc WAe (hc XAe hl_nil)))) Tryz.func127 (fun s s' h=>by cases s;cases s';cases h;rfl) (fun _=>rfl) (fun _ _=>rfl) (b Pj Sj Ia Wj) (e Pj Sj Ia Wj) gas
noncomputable def ZAe {γ:Type} (F:SAL):Hd ctx γ:=hdl cv29.dec (fun a=>F a.1 a.2) cv112.enc
abbrev UAL:=SDisk→Option Bool
inductive Iz where
 | c0 (v_6:(List SFile)) (v_7:Int) (v_8:Int) (d_1:SDisk)
noncomputable def VAT:Iz→LI
 | .c0 v_6 v_7 v_8 d_1=>(tdo Tryz.f59 104,[(1,[.one (.ptr 64 0)]),(6,[.one (.rsl 155 v_6)]),(7,[.one (.int .i64 v_7)]),(8,[.one (.int .i64 v_8)])],[(64,.var [.rsl 155 d_1.fFiles])])
noncomputable def VAL (z0:LZ) (k:Iz→Option Bool) (d_0:SDisk):Option Bool:=
 k (.c0 d_0.fFiles (d_0.fFiles.length:Int) 0 d_0)
noncomputable def BAB (z0:LZ) (k:Iz→Option Bool):Iz→Option Bool
 | .c0 v_6 v_7 v_8 d_1=>
 bif (decide (v_8<v_7)) then
  bif ((decide (0≤v_8)) && (decide (v_8<(v_6.length:Int)))) then
  (z0 ((v_6.getD v_8.toNat (⟨⟨#[]⟩,⟨#[]⟩,0⟩:SFile)).fName.size:Int) 1 8).bind fun r0=>
  bif (!r0) then
  some false
  else
  bif (decide (((v_6.getD v_8.toNat (⟨⟨#[]⟩,⟨#[]⟩,0⟩:SFile)).fText.size:Int) > 20000)) then
   some false
  else
   (z0 (v_6.getD v_8.toNat (⟨⟨#[]⟩,⟨#[]⟩,0⟩:SFile)).fKept 0 ((v_6.getD v_8.toNat (⟨⟨#[]⟩,⟨#[]⟩,0⟩:SFile)).fText.size:Int)).bind fun r1=>
   bif (!r1) then
   some false
   else
   bif (decide (v_8 > 0)) then
    bif ((decide (0≤(w64 (v_8 - 1)))) && (decide ((w64 (v_8 - 1))<(d_1.fFiles.length:Int)))) then
    bif (!(Op.bytesLess (ByteArray.toList (d_1.fFiles.getD (w64 (v_8 - 1)).toNat (⟨⟨#[]⟩,⟨#[]⟩,0⟩:SFile)).fName) (ByteArray.toList (v_6.getD v_8.toNat (⟨⟨#[]⟩,⟨#[]⟩,0⟩:SFile)).fName))) then
    some false
    else
    k (.c0 v_6 v_7 (w64 (v_8+1)) d_1)
    else none
   else
    k (.c0 v_6 v_7 (w64 (v_8+1)) d_1)
  else none
 else
  some (decide ((d_1.fFiles.length:Int)≤30))
noncomputable def Jz:Nat→Iz→Option Bool
 | 0,_=>none
 | m+1,s=>BAB WX (Jz m) s
noncomputable def Kz:UAL:=VAL WX (Jz gas)
theorem AAf:Tells ctx PP 59 cv35 cv6 (fun a=>Kz a):=
 have b:∀ z0,CutIs ctx PP 59 Tryz.f59 [] [(60,Fa z0)] cv6 VAT (BAB z0):=fun z0 _ s=>by cases s <;> kernel_rfl
 have e:∀ z0,EntryIs ctx PP 59 [] [(60,Fa z0)] cv35 cv6 VAT (fun k a=>VAL z0 k a):=fun z0 _ a=>by kernel_rfl
 fn_ok (hc Ze hl_nil) Tryz.func59 (fun s s' h=>by cases s;cases s';(repeat cases ‹SDisk›);cases h;rfl) (fun _=>rfl) (fun _ _=>rfl) (b WX) (e WX) gas
noncomputable def BAf {γ:Type} (F:UAL):Hd ctx γ:=hdl cv35.dec (fun a=>F a) cv6.enc
abbrev WAL:=ByteArray→SDisk→Option (SBook×(List SAct)×Bool)
noncomputable def XAL (z0:TAK) (z1:SAL) (z2:X9) (z3:GAA) (z4:UAL) (z5:JAA) (key_0:ByteArray) (d_1:SDisk):Option (SBook×(List SAct)×Bool):=
 (z0 d_1 ⟨#[98,111,111,107]⟩).bind fun r0=>
 (z1 key_0 r0.1).bind fun r1=>
 z2.bind fun r2=>
 (z3 r2 r1.1).bind fun r3=>
 (z4 d_1).bind fun r4=>
 bif (!r4) then
 some (⟨⟨#[]⟩,0,[],0,⟨#[]⟩,0⟩,([],false))
 else
 bif (!r3.2) then
  some (⟨⟨#[]⟩,0,[],0,⟨#[]⟩,0⟩,([],false))
 else
  (z5 d_1 ⟨#[98,111,111,107,43]⟩).bind fun r5=>
  bif (decide (r5≥0)) then
  bif (r1.2 == (r0.1.size:Int)) then
   some (r3.1,([⟨4,⟨#[98,111,111,107,43]⟩,⟨#[]⟩,⟨#[]⟩⟩],true))
  else
   bif ((decide (0≤r1.2)) && (decide (r1.2≤(r0.1.size:Int)))) then
   some (r3.1,(([(⟨4,⟨#[98,111,111,107,43]⟩,⟨#[]⟩,⟨#[]⟩⟩:SAct)]++[(⟨1,⟨#[98,111,111,107,43]⟩,(r0.1.extract 0 r1.2.toNat),⟨#[]⟩⟩:SAct),(⟨2,⟨#[98,111,111,107,43]⟩,⟨#[]⟩,⟨#[]⟩⟩:SAct),(⟨3,⟨#[98,111,111,107,43]⟩,⟨#[]⟩,⟨#[98,111,111,107]⟩⟩:SAct)]),true))
   else none
  else
  bif (r1.2 == (r0.1.size:Int)) then
   some (r3.1,([],true))
  else
   bif ((decide (0≤r1.2)) && (decide (r1.2≤(r0.1.size:Int)))) then
   some (r3.1,([⟨1,⟨#[98,111,111,107,43]⟩,(r0.1.extract 0 r1.2.toNat),⟨#[]⟩⟩,⟨2,⟨#[98,111,111,107,43]⟩,⟨#[]⟩,⟨#[]⟩⟩,⟨3,⟨#[98,111,111,107,43]⟩,⟨#[]⟩,⟨#[98,111,111,107]⟩⟩],true))
   else none
noncomputable def Nz:WAL:=XAL Iy Hz Fj Lj Kz Nj
theorem CAf:Tells ctx PP 62 cv114 cv115 (fun a=>Nz a.1 a.2):=fn_ok0 (hc ZAd (hc YAe (hc BAS (hc XAS (hc AAf (hc BAT hl_nil)))))) Tryz.func62 ((fun z0 z1 z2 z3 z4 z5 a=>by kernel_rfl:∀ z0 z1 z2 z3 z4 z5,EntryIs0 ctx PP 62 [] [(126,AAe z0),(127,ZAe z1),(30,CAS z2),(74,YAS z3),(59,BAf z4),(128,CAT z5)] cv114 cv115 fun a=>XAL z0 z1 z2 z3 z4 z5 a.1 a.2) Iy Hz Fj Lj Kz Nj)
noncomputable def DAf {γ:Type} (F:WAL):Hd ctx γ:=hdl cv114.dec (fun a=>F a.1 a.2) cv115.enc
abbrev TAD:=SLife→Option Bool
noncomputable def YAL (z0:X9) (z1:GAA) (z2:QAK) (z3:WAL) (l_0:SLife):Option Bool:=
 z0.bind fun r0=>
 (z1 r0 l_0.fDone).bind fun r1=>
 bif (!r1.2) then
 some false
 else
 bif l_0.fBox.fUp then
  (z2 r1.1 l_0.fBox.fBook).bind fun r2=>
  some r2
 else
  (z3 l_0.fBox.fKey l_0.fBox.fDisk).bind fun r3=>
  bif r3.2.2 then
  (z2 r1.1 r3.1).bind fun r4=>
  some r4
  else
  some false
noncomputable def Xp:TAD:=YAL Fj Lj Ey Nz
theorem IAY:Tells ctx PP 20 cv138 cv6 (fun a=>Xp a):=fn_ok0 (hc BAS (hc XAS (hc XAd (hc CAf hl_nil)))) Tryz.func20 ((fun z0 z1 z2 z3 a=>by kernel_rfl:∀ z0 z1 z2 z3,EntryIs0 ctx PP 20 [] [(30,CAS z0),(74,YAS z1),(61,YAd z2),(62,DAf z3)] cv138 cv6 fun a=>YAL z0 z1 z2 z3 a) Fj Lj Ey Nz)
noncomputable def OAY {γ:Type} (F:TAD):Hd ctx γ:=hdl cv138.dec (fun a=>F a) cv6.enc
abbrev O1:=SFile→SFile→Option Bool
noncomputable def ZAL (a_0:SFile) (b_1:SFile):Option Bool:=
 bif (!((ByteArray.toList a_0.fName) == (ByteArray.toList b_1.fName))) then
 some false
 else
 bif (!((ByteArray.toList a_0.fText) == (ByteArray.toList b_1.fText))) then
  some false
 else
  bif (a_0.fKept != b_1.fKept) then
  some false
  else
  some true
noncomputable def Ah:O1:=ZAL
theorem CAX:Tells ctx PP 159 cv54 cv6 (fun a=>Ah a.1 a.2):=fn_ok0 hl_nil Tryz.func159 (fun a=>by kernel_rfl:EntryIs0 ctx PP 159 [] [] cv54 cv6 fun a=>ZAL a.1 a.2)
noncomputable def QAN {γ:Type} (F:O1):Hd ctx γ:=hdl cv54.dec (fun a=>F a.1 a.2) cv6.enc
end Go.Proofs.YthfpmhalgimbbaaGreatDoor.G
