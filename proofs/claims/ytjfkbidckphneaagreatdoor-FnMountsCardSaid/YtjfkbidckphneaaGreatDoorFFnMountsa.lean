/- Functions of the program, told by plain functions: part 1 of 2. -/
import Derived.Test.YtjfkbidckphneaaGreatDoorCtx
namespace Go.Proofs.YtjfkbidckphneaaGreatDoor.G
open Go Go.Ev
set_option linter.unusedVariables false
set_option linter.unusedSectionVars false
variable [PC]
abbrev NY:=Int→Int→Int→Option Bool
noncomputable def Gx (x_0:Int) (least_1:Int) (most_2:Int):Option Bool:=
 bif (decide (x_0≥least_1)) then
 some (decide (x_0≤most_2))
 else
 some false
noncomputable def spec_l01In:NY:=Gx
theorem CZ:Tells ctx PP 24 cv8 cv1 (fun a=>spec_l01In a.1 a.2.1 a.2.2):=fn_ok0 hl_nil Tryz.func24 (fun a=>by kernel_rfl:EntryIs0 ctx PP 24 [] [] cv8 cv1 fun a=>Gx a.1 a.2.1 a.2.2)
noncomputable def TY {γ:Type} (F:NY):Hd ctx γ:=hdl cv8.dec (fun a=>F a.1 a.2.1 a.2.2) cv1.enc
abbrev DZ:=Int→Option ByteArray
inductive Ud where
 | c0 (n_0:Int) (out_3:(List Int))
noncomputable def Ox:Ud→LI
 | .c0 n_0 out_3=>(tdo Tryz.f53 224,[(0,[.one (.int .i64 n_0)]),(3,[.one (.own 240)])],[(240,.sl 5 out_3)])
noncomputable def Px (k:Ud→Option ByteArray) (n_0:Int):Option ByteArray:=
 k (.c0 n_0 [])
noncomputable def B_spec_l01Var (k:Ud→Option ByteArray):Ud→Option ByteArray
 | .c0 n_0 out_3=>
 bif (decide (n_0 > 127)) then
  bif (decide (((out_3.length+1)*1)≤140737488355328)) then
  k (.c0 (w64 (n_0.tdiv 128)) (out_3++[(w8 (w64 ((n_0.tmod 128)+128)))]))
  else none
 else
  bif (decide (((out_3.length+1)*1)≤140737488355328)) then
  some (ofBytes (out_3++[(w8 n_0)]))
  else none
noncomputable def L_spec_l01Var:Nat→Ud→Option ByteArray
 | 0,_=>none
 | m+1,s=>B_spec_l01Var (L_spec_l01Var m) s
noncomputable def spec_l01Var:DZ:=Px (L_spec_l01Var gas)
theorem Qa:Tells ctx PP 53 cv27 cv6 (fun a=>spec_l01Var a):=
 have b:CutIs ctx PP 53 Tryz.f53 [] [] cv6 Ox (B_spec_l01Var):=fun _ s=>by cases s <;> kernel_rfl
 have e:EntryIs ctx PP 53 [] [] cv27 cv6 Ox (fun k a=>Px k a):=fun _ a=>by kernel_rfl
 fn_ok hl_nil Tryz.func53 (fun s s' h=>by cases s;cases s';cases h;rfl) (fun _=>rfl) (fun _ _=>rfl) b e gas
noncomputable def MZ {γ:Type} (F:DZ):Hd ctx γ:=hdl cv27.dec (fun a=>F a) cv6.enc
abbrev Ro:=ByteArray→Int→Option (Int×Int×Bool)
inductive Vd where
 | c0 (text_0:ByteArray) (at_1:Int) (n_7:Int) (scale_8:Int) (i_9:Int)
noncomputable def Qx:Vd→LI
 | .c0 text_0 at_1 n_7 scale_8 i_9=>(tdo Tryz.f68 2000,[(0,[.one (.str text_0)]),(1,[.one (.int .i64 at_1)]),(7,[.one (.int .i64 n_7)]),(8,[.one (.int .i64 scale_8)]),(9,[.one (.int .i64 i_9)])],[])
noncomputable def E_spec_ReadVar (z0:NY) (z1:DZ) (k:Vd→Option (Int×Int×Bool)) (text_0:ByteArray) (at_1:Int):Option (Int×Int×Bool):=
 (z0 at_1 0 (text_0.size:Int)).bind fun r0=>
 bif (!r0) then
 some (0,(0,false))
 else
 k (.c0 text_0 at_1 0 1 at_1)
noncomputable def B_spec_ReadVar (z0:NY) (z1:DZ) (k:Vd→Option (Int×Int×Bool)):Vd→Option (Int×Int×Bool)
 | .c0 text_0 at_1 n_7 scale_8 i_9=>
 bif (decide (i_9<(text_0.size:Int))) then
  bif (decide (i_9<(w64 (at_1+5)))) then
  bif ((decide (0≤i_9)) && (decide (i_9<(text_0.size:Int)))) then
  bif ((decide (0≤i_9)) && (decide (i_9<(text_0.size:Int)))) then
  bif (decide ((bt text_0 i_9)<128)) then
   bif (decide ((w64 (n_7+(w64 (((w64 (bt text_0 i_9)).tmod 128)*scale_8)))) > 1000000000)) then
   some (0,(0,false))
   else
   (z1 (w64 (n_7+(w64 (((w64 (bt text_0 i_9)).tmod 128)*scale_8))))).bind fun r0=>
   bif (((decide (0≤at_1)) && (decide (at_1≤(w64 (i_9+1))))) && (decide ((w64 (i_9+1))≤(text_0.size:Int)))) then
   bif (!((ByteArray.toList r0) == (ByteArray.toList (text_0.extract at_1.toNat (w64 (i_9+1)).toNat)))) then
    some (0,(0,false))
   else
    some ((w64 (n_7+(w64 (((w64 (bt text_0 i_9)).tmod 128)*scale_8)))),((w64 (i_9+1)),true))
   else none
  else
   k (.c0 text_0 at_1 (w64 (n_7+(w64 (((w64 (bt text_0 i_9)).tmod 128)*scale_8)))) (w64 (scale_8*128)) (w64 (i_9+1)))
  else none
  else none
  else
  some (0,(0,false))
 else
  some (0,(0,false))
noncomputable def L_spec_ReadVar:Nat→Vd→Option (Int×Int×Bool)
 | 0,_=>none
 | m+1,s=>B_spec_ReadVar spec_l01In spec_l01Var (L_spec_ReadVar m) s
noncomputable def spec_ReadVar:Ro:=E_spec_ReadVar spec_l01In spec_l01Var (L_spec_ReadVar gas)
theorem Y9:Tells ctx PP 68 cv9 cv49 (fun a=>spec_ReadVar a.1 a.2):=
 have b:∀ z0 z1,CutIs ctx PP 68 Tryz.f68 [] [(24,TY z0),(53,MZ z1)] cv49 Qx (B_spec_ReadVar z0 z1):=fun z0 z1 _ s=>by cases s <;> kernel_rfl
 have e:∀ z0 z1,EntryIs ctx PP 68 [] [(24,TY z0),(53,MZ z1)] cv9 cv49 Qx (fun k a=>E_spec_ReadVar z0 z1 k a.1 a.2):=fun z0 z1 _ a=>by kernel_rfl
 fn_ok (hc CZ (hc Qa hl_nil)) Tryz.func68 (fun s s' h=>by cases s;cases s';cases h;rfl) (fun _=>rfl) (fun _ _=>rfl) (b spec_l01In spec_l01Var) (e spec_l01In spec_l01Var) gas
noncomputable def Z9 {γ:Type} (F:Ro):Hd ctx γ:=hdl cv9.dec (fun a=>F a.1 a.2) cv49.enc
abbrev Xd:=SL19Cur→Int→Option (ByteArray×SL19Cur)
noncomputable def E_spec_l19Take (c_0:SL19Cur) (n_1:Int):Option (ByteArray×SL19Cur):=
 bif c_0.fBad then
 some (⟨#[]⟩,⟨c_0.fText,c_0.fAt,true⟩)
 else
 bif (decide (n_1 > (w64 ((c_0.fText.size:Int) - c_0.fAt)))) then
  some (⟨#[]⟩,⟨c_0.fText,c_0.fAt,true⟩)
 else
  bif (((decide (0≤(w64 ((w64 (c_0.fAt+n_1)) - n_1)))) && (decide ((w64 ((w64 (c_0.fAt+n_1)) - n_1))≤(w64 (c_0.fAt+n_1))))) && (decide ((w64 (c_0.fAt+n_1))≤(c_0.fText.size:Int)))) then
  some ((c_0.fText.extract (w64 ((w64 (c_0.fAt+n_1)) - n_1)).toNat (w64 (c_0.fAt+n_1)).toNat),⟨c_0.fText,(w64 (c_0.fAt+n_1)),c_0.fBad⟩)
  else none
noncomputable def spec_l19Take:Xd:=E_spec_l19Take
theorem Uo:Tells ctx PP 71 cv61 cv62 (fun a=>spec_l19Take a.1 a.2):=fn_ok0 hl_nil Tryz.func71 (fun a=>by kernel_rfl:EntryIs0 ctx PP 71 [0] [] cv61 cv62 fun a=>E_spec_l19Take a.1 a.2)
noncomputable def Vo {γ:Type} (F:Xd):Hd ctx γ:=hdl cv61.dec (fun a=>F a.1 a.2) cv62.enc
abbrev Xj:=SL19Cur→Option (Int×SL19Cur)
noncomputable def E_spec_l19One (z0:Xd) (c_0:SL19Cur):Option (Int×SL19Cur):=
 (z0 c_0 1).bind fun r0=>
 bif r0.2.fBad then
 some (0,r0.2)
 else
 bif ((decide ((0:Int)≤(0:Int))) && (decide (0<(r0.1.size:Int)))) then
 some ((w64 (bt r0.1 0)),r0.2)
 else none
noncomputable def spec_l19One:Xj:=E_spec_l19One spec_l19Take
theorem Rx:Tells ctx PP 70 cv63 cv64 (fun a=>spec_l19One a):=fn_ok0 (hc Uo hl_nil) Tryz.func70 ((fun z0 a=>by kernel_rfl:∀ z0,EntryIs0 ctx PP 70 [0] [(71,Vo z0)] cv63 cv64 fun a=>E_spec_l19One z0 a) spec_l19Take)
noncomputable def Ux {γ:Type} (F:Xj):Hd ctx γ:=hdl cv63.dec (fun a=>F a) cv64.enc
abbrev Yd:=SL19Cur→Option (Int×SL19Cur)
noncomputable def E_spec_l19Var (z0:Ro) (c_0:SL19Cur):Option (Int×SL19Cur):=
 (z0 c_0.fText c_0.fAt).bind fun r0=>
 bif c_0.fBad then
 some (0,⟨c_0.fText,c_0.fAt,true⟩)
 else
 bif (!r0.2.2) then
  some (0,⟨c_0.fText,c_0.fAt,true⟩)
 else
  some (r0.1,⟨c_0.fText,r0.2.1,c_0.fBad⟩)
noncomputable def spec_l19Var:Yd:=E_spec_l19Var spec_ReadVar
theorem Xo:Tells ctx PP 72 cv63 cv64 (fun a=>spec_l19Var a):=fn_ok0 (hc Y9 hl_nil) Tryz.func72 ((fun z0 a=>by kernel_rfl:∀ z0,EntryIs0 ctx PP 72 [0] [(68,Z9 z0)] cv63 cv64 fun a=>E_spec_l19Var z0 a) spec_ReadVar)
noncomputable def Yo {γ:Type} (F:Yd):Hd ctx γ:=hdl cv63.dec (fun a=>F a) cv64.enc
abbrev Zo:=SL19Cur→Option (ByteArray×SL19Cur)
noncomputable def E_spec_l19ReadShort (z0:Yd) (z1:Xd) (c_0:SL19Cur):Option (ByteArray×SL19Cur):=
 (z0 c_0).bind fun r0=>
 (z1 r0.2 r0.1).bind fun r1=>
 some (r1.1,r1.2)
noncomputable def spec_l19ReadShort:Zo:=E_spec_l19ReadShort spec_l19Var spec_l19Take
theorem AAA:Tells ctx PP 105 cv63 cv62 (fun a=>spec_l19ReadShort a):=fn_ok0 (hc Xo (hc Uo hl_nil)) Tryz.func105 ((fun z0 z1 a=>by kernel_rfl:∀ z0 z1,EntryIs0 ctx PP 105 [0] [(72,Yo z0),(71,Vo z1)] cv63 cv62 fun a=>E_spec_l19ReadShort z0 z1 a) spec_l19Var spec_l19Take)
noncomputable def BAA {γ:Type} (F:Zo):Hd ctx γ:=hdl cv63.dec (fun a=>F a) cv62.enc
abbrev Zd:=SThing→Option Bool
noncomputable def E_spec_ThingOk (z0:NY) (x_0:SThing):Option Bool:=
 (z0 x_0.fId 1 1000).bind fun r0=>
 bif (!r0) then
 some false
 else
 (z0 x_0.fKind 1 3).bind fun r1=>
 bif (!r1) then
  some false
 else
  (z0 x_0.fNext 0 16).bind fun r2=>
  bif (!r2) then
  some false
  else
  bif (x_0.fKind != 2) then
   bif (x_0.fNext != 0) then
   some false
   else
   bif x_0.fSigns then
    some false
   else
    bif (x_0.fKind != 1) then
    bif x_0.fWraps then
     some false
    else
     bif (x_0.fKind == 3) then
     some (decide ((x_0.fValue.size:Int)≤100))
     else
     some ((x_0.fValue.size:Int) == 32)
    else
    bif (x_0.fKind == 3) then
     some (decide ((x_0.fValue.size:Int)≤100))
    else
     some ((x_0.fValue.size:Int) == 32)
  else
   bif (x_0.fKind != 1) then
   bif x_0.fWraps then
    some false
   else
    bif (x_0.fKind == 3) then
    some (decide ((x_0.fValue.size:Int)≤100))
    else
    some ((x_0.fValue.size:Int) == 32)
   else
   bif (x_0.fKind == 3) then
    some (decide ((x_0.fValue.size:Int)≤100))
   else
    some ((x_0.fValue.size:Int) == 32)
noncomputable def spec_ThingOk:Zd:=E_spec_ThingOk spec_l01In
theorem Vx:Tells ctx PP 94 cv28 cv1 (fun a=>spec_ThingOk a):=fn_ok0 (hc CZ hl_nil) Tryz.func94 ((fun z0 a=>by kernel_rfl:∀ z0,EntryIs0 ctx PP 94 [] [(24,TY z0)] cv28 cv1 fun a=>E_spec_ThingOk z0 a) spec_l01In)
noncomputable def Ap {γ:Type} (F:Zd):Hd ctx γ:=hdl cv28.dec (fun a=>F a) cv1.enc
abbrev Dp:=Bool→Int→Option Int
noncomputable def Wx (x_0:Bool) (n_1:Int):Option Int:=
 bif x_0 then
 some n_1
 else
 some 0
noncomputable def spec_l19Flag:Dp:=Wx
theorem CAA:Tells ctx PP 95 cv29 cv27 (fun a=>spec_l19Flag a.1 a.2):=fn_ok0 hl_nil Tryz.func95 (fun a=>by kernel_rfl:EntryIs0 ctx PP 95 [] [] cv29 cv27 fun a=>Wx a.1 a.2)
noncomputable def DAA {γ:Type} (F:Dp):Hd ctx γ:=hdl cv29.dec (fun a=>F a.1 a.2) cv27.enc
abbrev Ae:=Int→Option ByteArray
noncomputable def E_spec_l06Byte (n_0:Int):Option ByteArray:=
 bif (decide ((n_0.tmod 256)<0)) then
 some (ofBytes [(w8 (w64 ((n_0.tmod 256)+256)))])
 else
 some (ofBytes [(w8 (n_0.tmod 256))])
noncomputable def spec_l06Byte:Ae:=E_spec_l06Byte
theorem Xx:Tells ctx PP 96 cv27 cv6 (fun a=>spec_l06Byte a):=fn_ok0 hl_nil Tryz.func96 (fun a=>by kernel_rfl:EntryIs0 ctx PP 96 [] [] cv27 cv6 fun a=>E_spec_l06Byte a)
noncomputable def Ep {γ:Type} (F:Ae):Hd ctx γ:=hdl cv27.dec (fun a=>F a) cv6.enc
abbrev Fp:=ByteArray→Option ByteArray
noncomputable def E_spec_l19Short (z0:DZ) (s_0:ByteArray):Option ByteArray:=
 (z0 (s_0.size:Int)).bind fun r0=>
 bif (decide ((r0.size+s_0.size)≤9223372036854775807)) then
 some (r0++s_0)
 else none
noncomputable def spec_l19Short:Fp:=E_spec_l19Short spec_l01Var
theorem EAA:Tells ctx PP 97 cv6 cv6 (fun a=>spec_l19Short a):=fn_ok0 (hc Qa hl_nil) Tryz.func97 ((fun z0 a=>by kernel_rfl:∀ z0,EntryIs0 ctx PP 97 [] [(53,MZ z0)] cv6 cv6 fun a=>E_spec_l19Short z0 a) spec_l01Var)
noncomputable def FAA {γ:Type} (F:Fp):Hd ctx γ:=hdl cv6.dec (fun a=>F a) cv6.enc
abbrev Yj:=SThing→Option (ByteArray×Bool)
noncomputable def E_spec_ThingText (z0:Zd) (z1:Dp) (z2:DZ) (z3:Ae) (z4:Fp) (x_0:SThing):Option (ByteArray×Bool):=
 (z0 x_0).bind fun r0=>
 bif (!r0) then
 some (⟨#[]⟩,false)
 else
 (z1 x_0.fHidden 1).bind fun r1=>
 (z1 x_0.fFixed 2).bind fun r2=>
 (z1 x_0.fSigns 4).bind fun r3=>
 (z1 x_0.fWraps 8).bind fun r4=>
 (z2 x_0.fId).bind fun r5=>
 (z3 x_0.fKind).bind fun r6=>
 bif (decide ((r5.size+r6.size)≤9223372036854775807)) then
 (z3 (w64 ((w64 ((w64 (r1+r2))+r3))+r4))).bind fun r7=>
 bif (decide (((r5++r6).size+r7.size)≤9223372036854775807)) then
 (z4 x_0.fValue).bind fun r8=>
 bif (decide ((((r5++r6)++r7).size+r8.size)≤9223372036854775807)) then
 (z2 x_0.fNext).bind fun r9=>
 bif (decide (((((r5++r6)++r7)++r8).size+r9.size)≤9223372036854775807)) then
 some (((((r5++r6)++r7)++r8)++r9),true)
 else none
 else none
 else none
 else none
noncomputable def spec_ThingText:Yj:=E_spec_ThingText spec_ThingOk spec_l19Flag spec_l01Var spec_l06Byte spec_l19Short
theorem Yx:Tells ctx PP 54 cv28 cv30 (fun a=>spec_ThingText a):=fn_ok0 (hc Vx (hc CAA (hc Qa (hc Xx (hc EAA hl_nil))))) Tryz.func54 ((fun z0 z1 z2 z3 z4 a=>by kernel_rfl:∀ z0 z1 z2 z3 z4,EntryIs0 ctx PP 54 [] [(94,Ap z0),(95,DAA z1),(53,MZ z2),(96,Ep z3),(97,FAA z4)] cv28 cv30 fun a=>E_spec_ThingText z0 z1 z2 z3 z4 a) spec_ThingOk spec_l19Flag spec_l01Var spec_l06Byte spec_l19Short)
noncomputable def Zx {γ:Type} (F:Yj):Hd ctx γ:=hdl cv28.dec (fun a=>F a) cv30.enc
abbrev Gp:=ByteArray→Option (SThing×Bool)
noncomputable def E_spec_ReadThing (z0:Yd) (z1:Xj) (z2:Zo) (z3:Yj) (text_0:ByteArray):Option (SThing×Bool):=
 (z0 ⟨text_0,0,false⟩).bind fun r0=>
 (z1 r0.2).bind fun r1=>
 (z1 r1.2).bind fun r2=>
 (z2 r2.2).bind fun r3=>
 (z0 r3.2).bind fun r4=>
 (z3 ⟨r0.1,r1.1,((r2.1.tmod 2) == 1),(((w64 (r2.1.tdiv 2)).tmod 2) == 1),(((w64 (r2.1.tdiv 4)).tmod 2) == 1),(((w64 (r2.1.tdiv 8)).tmod 2) == 1),r3.1,r4.1⟩).bind fun r5=>
 bif r4.2.fBad then
 some (⟨0,0,false,false,false,false,⟨#[]⟩,0⟩,false)
 else
 bif (!r5.2) then
  some (⟨0,0,false,false,false,false,⟨#[]⟩,0⟩,false)
 else
  bif (!((ByteArray.toList r5.1) == (ByteArray.toList text_0))) then
  some (⟨0,0,false,false,false,false,⟨#[]⟩,0⟩,false)
  else
  some (⟨r0.1,r1.1,((r2.1.tmod 2) == 1),(((w64 (r2.1.tdiv 2)).tmod 2) == 1),(((w64 (r2.1.tdiv 4)).tmod 2) == 1),(((w64 (r2.1.tdiv 8)).tmod 2) == 1),r3.1,r4.1⟩,true)
noncomputable def spec_ReadThing:Gp:=E_spec_ReadThing spec_l19Var spec_l19One spec_l19ReadShort spec_ThingText
theorem GAA:Tells ctx PP 73 cv6 cv34 (fun a=>spec_ReadThing a):=fn_ok0 (hc Xo (hc Rx (hc AAA (hc Yx hl_nil)))) Tryz.func73 ((fun z0 z1 z2 z3 a=>by kernel_rfl:∀ z0 z1 z2 z3,EntryIs0 ctx PP 73 [] [(72,Yo z0),(70,Ux z1),(105,BAA z2),(54,Zx z3)] cv6 cv34 fun a=>E_spec_ReadThing z0 z1 z2 z3 a) spec_l19Var spec_l19One spec_l19ReadShort spec_ThingText)
noncomputable def HAA {γ:Type} (F:Gp):Hd ctx γ:=hdl cv6.dec (fun a=>F a) cv34.enc
abbrev Ib:=SRec→Option (ByteArray×Bool)
noncomputable def E_spec_RecText (z0:NY) (z1:DZ) (z2:Yj) (r_0:SRec):Option (ByteArray×Bool):=
 bif (r_0.fKind == 1) then
 bif ((r_0.fText.size:Int) == 32) then
  bif (r_0.fNum == 0) then
  bif ((r_0.fThing.fId == 0) && ((r_0.fThing.fKind == 0) && ((r_0.fThing.fHidden == false) && ((r_0.fThing.fFixed == false) && ((r_0.fThing.fSigns == false) && ((r_0.fThing.fWraps == false) && (((ByteArray.toList r_0.fThing.fValue) == (ByteArray.toList ⟨#[]⟩)) && ((r_0.fThing.fNext == 0) && true)))))))) then
   bif (decide (((⟨#[1]⟩:ByteArray).size+r_0.fText.size)≤9223372036854775807)) then
   some (((⟨#[1]⟩:ByteArray)++r_0.fText),true)
   else none
  else
   some (⟨#[]⟩,false)
  else
  some (⟨#[]⟩,false)
 else
  some (⟨#[]⟩,false)
 else
 bif (r_0.fKind == 2) then
  bif ((ByteArray.toList r_0.fText) == (ByteArray.toList ⟨#[]⟩)) then
  bif ((r_0.fThing.fId == 0) && ((r_0.fThing.fKind == 0) && ((r_0.fThing.fHidden == false) && ((r_0.fThing.fFixed == false) && ((r_0.fThing.fSigns == false) && ((r_0.fThing.fWraps == false) && (((ByteArray.toList r_0.fThing.fValue) == (ByteArray.toList ⟨#[]⟩)) && ((r_0.fThing.fNext == 0) && true)))))))) then
   (z0 r_0.fNum 0 3).bind fun r0=>
   bif r0 then
   (z1 r_0.fNum).bind fun r1=>
   bif (decide (((⟨#[2]⟩:ByteArray).size+r1.size)≤9223372036854775807)) then
   some (((⟨#[2]⟩:ByteArray)++r1),true)
   else none
   else
   some (⟨#[]⟩,false)
  else
   some (⟨#[]⟩,false)
  else
  some (⟨#[]⟩,false)
 else
  bif (r_0.fKind == 3) then
  (z2 r_0.fThing).bind fun r2=>
  bif r2.2 then
   bif ((ByteArray.toList r_0.fText) == (ByteArray.toList ⟨#[]⟩)) then
   bif (r_0.fNum == 0) then
    bif (decide (((⟨#[3]⟩:ByteArray).size+r2.1.size)≤9223372036854775807)) then
    some (((⟨#[3]⟩:ByteArray)++r2.1),true)
    else none
   else
    some (⟨#[]⟩,false)
   else
   some (⟨#[]⟩,false)
  else
   some (⟨#[]⟩,false)
  else
  bif (r_0.fKind == 4) then
   bif ((ByteArray.toList r_0.fText) == (ByteArray.toList ⟨#[]⟩)) then
   bif ((r_0.fThing.fId == 0) && ((r_0.fThing.fKind == 0) && ((r_0.fThing.fHidden == false) && ((r_0.fThing.fFixed == false) && ((r_0.fThing.fSigns == false) && ((r_0.fThing.fWraps == false) && (((ByteArray.toList r_0.fThing.fValue) == (ByteArray.toList ⟨#[]⟩)) && ((r_0.fThing.fNext == 0) && true)))))))) then
    (z0 r_0.fNum 1 1000).bind fun r3=>
    bif r3 then
    (z1 r_0.fNum).bind fun r4=>
    bif (decide (((⟨#[4]⟩:ByteArray).size+r4.size)≤9223372036854775807)) then
    some (((⟨#[4]⟩:ByteArray)++r4),true)
    else none
    else
    some (⟨#[]⟩,false)
   else
    some (⟨#[]⟩,false)
   else
   some (⟨#[]⟩,false)
  else
   some (⟨#[]⟩,false)
noncomputable def spec_RecText:Ib:=E_spec_RecText spec_l01In spec_l01Var spec_ThingText
theorem Ip:Tells ctx PP 23 cv31 cv30 (fun a=>spec_RecText a):=fn_ok0 (hc CZ (hc Qa (hc Yx hl_nil))) Tryz.func23 ((fun z0 z1 z2 a=>by kernel_rfl:∀ z0 z1 z2,EntryIs0 ctx PP 23 [] [(24,TY z0),(53,MZ z1),(54,Zx z2)] cv31 cv30 fun a=>E_spec_RecText z0 z1 z2 a) spec_l01In spec_l01Var spec_ThingText)
noncomputable def Zj {γ:Type} (F:Ib):Hd ctx γ:=hdl cv31.dec (fun a=>F a) cv30.enc
abbrev Dy:=ByteArray→Option (SRec×Bool)
noncomputable def E_spec_ReadRec (z0:Xj) (z1:Xd) (z2:Yd) (z3:Gp) (z4:Ib) (text_0:ByteArray):Option (SRec×Bool):=
 (z0 ⟨text_0,0,false⟩).bind fun r0=>
 bif (r0.1 == 1) then
 (z1 r0.2 32).bind fun r1=>
 (z4 ⟨r0.1,r1.1,0,⟨0,0,false,false,false,false,⟨#[]⟩,0⟩⟩).bind fun r2=>
 bif r1.2.fBad then
  some (⟨0,⟨#[]⟩,0,⟨0,0,false,false,false,false,⟨#[]⟩,0⟩⟩,false)
 else
  bif (!r2.2) then
  some (⟨0,⟨#[]⟩,0,⟨0,0,false,false,false,false,⟨#[]⟩,0⟩⟩,false)
  else
  bif (!((ByteArray.toList r2.1) == (ByteArray.toList text_0))) then
   some (⟨0,⟨#[]⟩,0,⟨0,0,false,false,false,false,⟨#[]⟩,0⟩⟩,false)
  else
   some (⟨r0.1,r1.1,0,⟨0,0,false,false,false,false,⟨#[]⟩,0⟩⟩,true)
 else
 bif (r0.1 == 2) then
  bif (r0.1 == 2) then
  (z2 r0.2).bind fun r3=>
  (z4 ⟨r0.1,⟨#[]⟩,r3.1,⟨0,0,false,false,false,false,⟨#[]⟩,0⟩⟩).bind fun r4=>
  bif r3.2.fBad then
   some (⟨0,⟨#[]⟩,0,⟨0,0,false,false,false,false,⟨#[]⟩,0⟩⟩,false)
  else
   bif (!r4.2) then
   some (⟨0,⟨#[]⟩,0,⟨0,0,false,false,false,false,⟨#[]⟩,0⟩⟩,false)
   else
   bif (!((ByteArray.toList r4.1) == (ByteArray.toList text_0))) then
    some (⟨0,⟨#[]⟩,0,⟨0,0,false,false,false,false,⟨#[]⟩,0⟩⟩,false)
   else
    some (⟨r0.1,⟨#[]⟩,r3.1,⟨0,0,false,false,false,false,⟨#[]⟩,0⟩⟩,true)
  else
  bif (r0.1 == 3) then
   bif ((decide ((0:Int)≤(1:Int))) && (decide (1≤(text_0.size:Int)))) then
   (z3 (text_0.extract (1:Int).toNat text_0.size)).bind fun r5=>
   (z4 ⟨r0.1,⟨#[]⟩,0,r5.1⟩).bind fun r6=>
   bif r0.2.fBad then
   some (⟨0,⟨#[]⟩,0,⟨0,0,false,false,false,false,⟨#[]⟩,0⟩⟩,false)
   else
   bif (!r6.2) then
    some (⟨0,⟨#[]⟩,0,⟨0,0,false,false,false,false,⟨#[]⟩,0⟩⟩,false)
   else
    bif (!((ByteArray.toList r6.1) == (ByteArray.toList text_0))) then
    some (⟨0,⟨#[]⟩,0,⟨0,0,false,false,false,false,⟨#[]⟩,0⟩⟩,false)
    else
    some (⟨r0.1,⟨#[]⟩,0,r5.1⟩,true)
   else none
  else
   (z4 ⟨r0.1,⟨#[]⟩,0,⟨0,0,false,false,false,false,⟨#[]⟩,0⟩⟩).bind fun r7=>
   bif r0.2.fBad then
   some (⟨0,⟨#[]⟩,0,⟨0,0,false,false,false,false,⟨#[]⟩,0⟩⟩,false)
   else
   bif (!r7.2) then
    some (⟨0,⟨#[]⟩,0,⟨0,0,false,false,false,false,⟨#[]⟩,0⟩⟩,false)
   else
    bif (!((ByteArray.toList r7.1) == (ByteArray.toList text_0))) then
    some (⟨0,⟨#[]⟩,0,⟨0,0,false,false,false,false,⟨#[]⟩,0⟩⟩,false)
    else
    some (⟨r0.1,⟨#[]⟩,0,⟨0,0,false,false,false,false,⟨#[]⟩,0⟩⟩,true)
 else
  bif (r0.1 == 4) then
  (z2 r0.2).bind fun r8=>
  (z4 ⟨r0.1,⟨#[]⟩,r8.1,⟨0,0,false,false,false,false,⟨#[]⟩,0⟩⟩).bind fun r9=>
  bif r8.2.fBad then
   some (⟨0,⟨#[]⟩,0,⟨0,0,false,false,false,false,⟨#[]⟩,0⟩⟩,false)
  else
   bif (!r9.2) then
   some (⟨0,⟨#[]⟩,0,⟨0,0,false,false,false,false,⟨#[]⟩,0⟩⟩,false)
   else
   bif (!((ByteArray.toList r9.1) == (ByteArray.toList text_0))) then
    some (⟨0,⟨#[]⟩,0,⟨0,0,false,false,false,false,⟨#[]⟩,0⟩⟩,false)
   else
    some (⟨r0.1,⟨#[]⟩,r8.1,⟨0,0,false,false,false,false,⟨#[]⟩,0⟩⟩,true)
  else
  bif (r0.1 == 3) then
   bif ((decide ((0:Int)≤(1:Int))) && (decide (1≤(text_0.size:Int)))) then
   (z3 (text_0.extract (1:Int).toNat text_0.size)).bind fun r10=>
   (z4 ⟨r0.1,⟨#[]⟩,0,r10.1⟩).bind fun r11=>
   bif r0.2.fBad then
   some (⟨0,⟨#[]⟩,0,⟨0,0,false,false,false,false,⟨#[]⟩,0⟩⟩,false)
   else
   bif (!r11.2) then
    some (⟨0,⟨#[]⟩,0,⟨0,0,false,false,false,false,⟨#[]⟩,0⟩⟩,false)
   else
    bif (!((ByteArray.toList r11.1) == (ByteArray.toList text_0))) then
    some (⟨0,⟨#[]⟩,0,⟨0,0,false,false,false,false,⟨#[]⟩,0⟩⟩,false)
    else
    some (⟨r0.1,⟨#[]⟩,0,r10.1⟩,true)
   else none
  else
   (z4 ⟨r0.1,⟨#[]⟩,0,⟨0,0,false,false,false,false,⟨#[]⟩,0⟩⟩).bind fun r12=>
   bif r0.2.fBad then
   some (⟨0,⟨#[]⟩,0,⟨0,0,false,false,false,false,⟨#[]⟩,0⟩⟩,false)
   else
   bif (!r12.2) then
    some (⟨0,⟨#[]⟩,0,⟨0,0,false,false,false,false,⟨#[]⟩,0⟩⟩,false)
   else
    bif (!((ByteArray.toList r12.1) == (ByteArray.toList text_0))) then
    some (⟨0,⟨#[]⟩,0,⟨0,0,false,false,false,false,⟨#[]⟩,0⟩⟩,false)
    else
    some (⟨r0.1,⟨#[]⟩,0,⟨0,0,false,false,false,false,⟨#[]⟩,0⟩⟩,true)
noncomputable def spec_ReadRec:Dy:=E_spec_ReadRec spec_l19One spec_l19Take spec_l19Var spec_ReadThing spec_RecText
theorem OAG:Tells ctx PP 35 cv6 cv58 (fun a=>spec_ReadRec a):=fn_ok0 (hc Rx (hc Uo (hc Xo (hc GAA (hc Ip hl_nil))))) Tryz.func35 ((fun z0 z1 z2 z3 z4 a=>by kernel_rfl:∀ z0 z1 z2 z3 z4,EntryIs0 ctx PP 35 [] [(70,Ux z0),(71,Vo z1),(72,Yo z2),(73,HAA z3),(23,Zj z4)] cv6 cv58 fun a=>E_spec_ReadRec z0 z1 z2 z3 z4 a) spec_l19One spec_l19Take spec_l19Var spec_ReadThing spec_RecText)
noncomputable def PAG {γ:Type} (F:Dy):Hd ctx γ:=hdl cv6.dec (fun a=>F a) cv58.enc
abbrev Pj:=Unit→Option Bool
noncomputable def Ey (code_0:Unit):Option Bool:=
 some (decide ((codeL.length:Int) > 1048576))
noncomputable def laws_big:Pj:=Ey
theorem P9:Tells ctx PP 5 cv0 cv1 (fun a=>laws_big a):=fn_ok0 hl_nil Tryz.func5 (fun a=>by kernel_rfl:EntryIs0 ctx PP 5 [] [] cv0 cv1 fun a=>Ey a)
noncomputable def Qw {γ:Type} (F:Pj):Hd ctx γ:=hdl cv0.dec (fun a=>F a) cv1.enc
abbrev Ad:=Unit→Option SL01Cur
inductive Ce where
 | c0 (h_3:Int) (i_4:Int)
noncomputable def Gy:Ce→LI
 | .c0 h_3 i_4=>(tdo Tryz.f22 464,[(0,[.one (.csl)]),(3,[.one (.int .i64 h_3)]),(4,[.one (.int .i64 i_4)])],[])
noncomputable def E_spec_l01New (k:Ce→Option SL01Cur) (code_0:Unit):Option SL01Cur:=
 k (.c0 (w64 (27401+(codeL.length:Int))) 0)
noncomputable def B_spec_l01New (k:Ce→Option SL01Cur):Ce→Option SL01Cur
 | .c0 h_3 i_4=>
 bif (decide (i_4<(codeL.length:Int))) then
  bif (decide (i_4<4000)) then
  bif ((decide (0≤i_4)) && (decide (i_4<(codeL.length:Int)))) then
  bif (Nat.blt i_4.toNat codeL.length) then
  k (.c0 (w64 (((BitVec.toNat ((BitVec.ofInt (IntKind.bits IntKind.i64) (w64 ((w64 ((w64 (h_3*131))+(w64 (codeL.getD i_4.toNat 0))))+7))) &&& (BitVec.ofInt (IntKind.bits IntKind.i64) 1073741823))):Nat):Int)) (w64 (i_4+1)))
  else none
  else none
  else
  some ⟨(),0,h_3⟩
 else
  some ⟨(),0,h_3⟩
noncomputable def L_spec_l01New:Nat→Ce→Option SL01Cur
 | 0,_=>none
 | m+1,s=>B_spec_l01New (L_spec_l01New m) s
noncomputable def spec_l01New:Ad:=E_spec_l01New (L_spec_l01New gas)
theorem Zv:Tells ctx PP 22 cv0 cv2 (fun a=>spec_l01New a):=
 have b:CutIs ctx PP 22 Tryz.f22 [] [] cv2 Gy (B_spec_l01New):=fun _ s=>by cases s <;> kernel_rfl
 have e:EntryIs ctx PP 22 [] [] cv0 cv2 Gy (fun k a=>E_spec_l01New k a):=fun _ a=>by kernel_rfl
 fn_ok hl_nil Tryz.func22 (fun s s' h=>by cases s;cases s';cases h;rfl) (fun _=>rfl) (fun _ _=>rfl) b e gas
noncomputable def Ho {γ:Type} (F:Ad):Hd ctx γ:=hdl cv0.dec (fun a=>F a) cv2.enc
abbrev Jp:=Option (List Int)
noncomputable def Hy  : Option (List Int):=
 some [1779033703,3144134277,1013904242,2773480762,1359893119,2600822924,528734635,1541459225]
noncomputable def spec_l05First:Jp:=Hy
theorem IAA:Tells ctx PP 118 cv3 cv4 (fun _=>spec_l05First):=fn_ok0 hl_nil Tryz.func118 (fun _=>by kernel_rfl:EntryIs0 ctx PP 118 [] [] cv3 cv4 fun _=>Hy)
noncomputable def JAA {γ:Type} (F:Jp):Hd ctx γ:=hdl cv3.dec (fun _=>F) cv4.enc
abbrev Ua:=(List Int)→Option ByteArray
inductive Ee where
 | c0 (words_0:(List Int)) (i_4:Int) (out_3:(List Int))
noncomputable def Iy:Ee→LI
 | .c0 words_0 i_4 out_3=>(tdo Tryz.f117 464,[(0,[.one (.rsl 92 words_0)]),(3,[.one (.own 240)]),(4,[.one (.int .i64 i_4)])],[(240,.sl 5 out_3)])
noncomputable def Jy (k:Ee→Option ByteArray) (words_0:(List Int)):Option ByteArray:=
 k (.c0 words_0 0 [])
noncomputable def B_spec_l05Bytes (k:Ee→Option ByteArray):Ee→Option ByteArray
 | .c0 words_0 i_4 out_3=>
 bif (decide (i_4<(words_0.length:Int))) then
  bif ((decide (0≤i_4)) && (decide (i_4<(words_0.length:Int)))) then
  bif (decide (((out_3.length+4)*1)≤140737488355328)) then
  k (.c0 words_0 (w64 (i_4+1)) (out_3++[(w8 (w32 ((words_0.getD i_4.toNat 0).tdiv 16777216))),(w8 ((w32 ((words_0.getD i_4.toNat 0).tdiv 65536)).tmod 256)),(w8 ((w32 ((words_0.getD i_4.toNat 0).tdiv 256)).tmod 256)),(w8 ((words_0.getD i_4.toNat 0).tmod 256))]))
  else none
  else none
 else
  some (ofBytes out_3)
noncomputable def L_spec_l05Bytes:Nat→Ee→Option ByteArray
 | 0,_=>none
 | m+1,s=>B_spec_l05Bytes (L_spec_l05Bytes m) s
noncomputable def spec_l05Bytes:Ua:=Jy (L_spec_l05Bytes gas)
theorem Np:Tells ctx PP 117 cv5 cv6 (fun a=>spec_l05Bytes a):=
 have b:CutIs ctx PP 117 Tryz.f117 [] [] cv6 Iy (B_spec_l05Bytes):=fun _ s=>by cases s <;> kernel_rfl
 have e:EntryIs ctx PP 117 [] [] cv5 cv6 Iy (fun k a=>Jy k a):=fun _ a=>by kernel_rfl
 fn_ok hl_nil Tryz.func117 (fun s s' h=>by cases s;cases s';cases h;rfl) (fun _=>rfl) (fun _ _=>rfl) b e gas
noncomputable def Fe {γ:Type} (F:Ua):Hd ctx γ:=hdl cv5.dec (fun a=>F a) cv6.enc
abbrev Qp:=Option SHasher
noncomputable def E_spec_HasherNew (z0:Jp) (z1:Ua)  : Option SHasher:=
 z0.bind fun r0=>
 (z1 r0).bind fun r1=>
 some ⟨r1,⟨#[]⟩,0⟩
noncomputable def spec_HasherNew:Qp:=E_spec_HasherNew spec_l05First spec_l05Bytes
theorem KAA:Tells ctx PP 83 cv3 cv7 (fun _=>spec_HasherNew):=fn_ok0 (hc IAA (hc Np hl_nil)) Tryz.func83 ((fun z0 z1 _=>by kernel_rfl:∀ z0 z1,EntryIs0 ctx PP 83 [] [(118,JAA z0),(117,Fe z1)] cv3 cv7 fun _=>E_spec_HasherNew z0 z1) spec_l05First spec_l05Bytes)
noncomputable def LAA {γ:Type} (F:Qp):Hd ctx γ:=hdl cv3.dec (fun _=>F) cv7.enc
abbrev Jb:=SHasher→Option Bool
noncomputable def E_spec_HasherOk (z0:NY) (h_0:SHasher):Option Bool:=
 bif ((h_0.fState.size:Int) == 32) then
 bif (decide ((h_0.fRest.size:Int)<64)) then
  (z0 h_0.fCount 0 1000000000).bind fun r0=>
  bif r0 then
  some ((h_0.fCount.tmod 64) == (h_0.fRest.size:Int))
  else
  some false
 else
  some false
 else
 some false
noncomputable def spec_HasherOk:Jb:=E_spec_HasherOk spec_l01In
theorem Ky:Tells ctx PP 113 cv7 cv1 (fun a=>spec_HasherOk a):=fn_ok0 (hc CZ hl_nil) Tryz.func113 ((fun z0 a=>by kernel_rfl:∀ z0,EntryIs0 ctx PP 113 [] [(24,TY z0)] cv7 cv1 fun a=>E_spec_HasherOk z0 a) spec_l01In)
noncomputable def Ak {γ:Type} (F:Jb):Hd ctx γ:=hdl cv7.dec (fun a=>F a) cv1.enc
abbrev Ik:=ByteArray→Int→Option Int
noncomputable def E_spec_l05Word (s_0:ByteArray) (at_1:Int):Option Int:=
 bif ((decide (0≤at_1)) && (decide (at_1<(s_0.size:Int)))) then
 bif ((decide (0≤(w64 (at_1+1)))) && (decide ((w64 (at_1+1))<(s_0.size:Int)))) then
 bif ((decide (0≤(w64 (at_1+2)))) && (decide ((w64 (at_1+2))<(s_0.size:Int)))) then
 bif ((decide (0≤(w64 (at_1+3)))) && (decide ((w64 (at_1+3))<(s_0.size:Int)))) then
 some (w32 ((w32 ((w32 ((w32 ((w32 (bt s_0 at_1))*16777216))+(w32 ((w32 (bt s_0 (w64 (at_1+1))))*65536))))+(w32 ((w32 (bt s_0 (w64 (at_1+2))))*256))))+(w32 (bt s_0 (w64 (at_1+3))))))
 else none
 else none
 else none
 else none
noncomputable def spec_l05Word:Ik:=E_spec_l05Word
theorem MAA:Tells ctx PP 129 cv9 cv10 (fun a=>spec_l05Word a.1 a.2):=fn_ok0 hl_nil Tryz.func129 (fun a=>by kernel_rfl:EntryIs0 ctx PP 129 [] [] cv9 cv10 fun a=>E_spec_l05Word a.1 a.2)
noncomputable def Ny {γ:Type} (F:Ik):Hd ctx γ:=hdl cv9.dec (fun a=>F a.1 a.2) cv10.enc
abbrev UZ:=ByteArray→Option (List Int)
inductive He where
 | c0 (s_0:ByteArray) (i_4:Int) (out_3:(List Int))
noncomputable def Oy:He→LI
 | .c0 s_0 i_4 out_3=>(tdo Tryz.f114 464,[(0,[.one (.str s_0)]),(3,[.one (.own 240)]),(4,[.one (.int .i64 i_4)])],[(240,.sl 92 out_3)])
noncomputable def Py (z0:Ik) (k:He→Option (List Int)) (s_0:ByteArray):Option (List Int):=
 k (.c0 s_0 0 [])
noncomputable def B_spec_l05Words (z0:Ik) (k:He→Option (List Int)):He→Option (List Int)
 | .c0 s_0 i_4 out_3=>
 bif (decide ((w64 (i_4+4))≤(s_0.size:Int))) then
  (z0 s_0 i_4).bind fun r0=>
  bif (decide (((out_3.length+1)*4)≤140737488355328)) then
  k (.c0 s_0 (w64 (i_4+4)) (out_3++[r0]))
  else none
 else
  some out_3
noncomputable def L_spec_l05Words:Nat→He→Option (List Int)
 | 0,_=>none
 | m+1,s=>B_spec_l05Words spec_l05Word (L_spec_l05Words m) s
noncomputable def spec_l05Words:UZ:=Py spec_l05Word (L_spec_l05Words gas)
theorem Vp:Tells ctx PP 114 cv6 cv4 (fun a=>spec_l05Words a):=
 have b:∀ z0,CutIs ctx PP 114 Tryz.f114 [] [(129,Ny z0)] cv4 Oy (B_spec_l05Words z0):=fun z0 _ s=>by cases s <;> kernel_rfl
 have e:∀ z0,EntryIs ctx PP 114 [] [(129,Ny z0)] cv6 cv4 Oy (fun k a=>Py z0 k a):=fun z0 _ a=>by kernel_rfl
 fn_ok (hc MAA hl_nil) Tryz.func114 (fun s s' h=>by cases s;cases s';cases h;rfl) (fun _=>rfl) (fun _ _=>rfl) (b spec_l05Word) (e spec_l05Word) gas
noncomputable def Nb {γ:Type} (F:UZ):Hd ctx γ:=hdl cv6.dec (fun a=>F a) cv4.enc
abbrev Ob:=Option (List Int)
noncomputable def Qy  : Option (List Int):=
 some [1116352408,1899447441,3049323471,3921009573,961987163,1508970993,2453635748,2870763221,3624381080,310598401,607225278,1426881987,1925078388,2162078206,2614888103,3248222580,3835390401,4022224774,264347078,604807628,770255983,1249150122,1555081692,1996064986,2554220882,2821834349,2952996808,3210313671,3336571891,3584528711,113926993,338241895,666307205,773529912,1294757372,1396182291,1695183700,1986661051,2177026350,2456956037,2730485921,2820302411,3259730800,3345764771,3516065817,3600352804,4094571909,275423344,430227734,506948616,659060556,883997877,958139571,1322822218,1537002063,1747873779,1955562222,2024104815,2227730452,2361852424,2428436474,2756734187,3204031479,3329325298]
noncomputable def spec_l05K:Ob:=Qy
theorem Ry:Tells ctx PP 115 cv3 cv4 (fun _=>spec_l05K):=fn_ok0 hl_nil Tryz.func115 (fun _=>by kernel_rfl:EntryIs0 ctx PP 115 [] [] cv3 cv4 fun _=>Qy)
noncomputable def Jk {γ:Type} (F:Ob):Hd ctx γ:=hdl cv3.dec (fun _=>F) cv4.enc
abbrev Wp:=Int→Int→Int→Option Int
noncomputable def E_spec_l05Right (x_0:Int) (low_1:Int) (high_2:Int):Option Int:=
 bif (!(low_1 == 0)) then
 bif (!(low_1 == 0)) then
 some (w32 ((w32 (x_0.tdiv low_1))+(w32 ((x_0.tmod low_1)*high_2))))
 else none
 else none
noncomputable def spec_l05Right:Wp:=E_spec_l05Right
theorem NAA:Tells ctx PP 133 cv11 cv10 (fun a=>spec_l05Right a.1 a.2.1 a.2.2):=fn_ok0 hl_nil Tryz.func133 (fun a=>by kernel_rfl:EntryIs0 ctx PP 133 [] [] cv11 cv10 fun a=>E_spec_l05Right a.1 a.2.1 a.2.2)
noncomputable def OAA {γ:Type} (F:Wp):Hd ctx γ:=hdl cv11.dec (fun a=>F a.1 a.2.1 a.2.2) cv10.enc
abbrev Nk:=Int→Int→Int→Int→Bool→Option Int
noncomputable def E_spec_l05S (z0:Wp) (x_0:Int) (a_1:Int) (b_2:Int) (c_3:Int) (last_4:Bool):Option Int:=
 bif (!(a_1 == 0)) then
 (z0 x_0 a_1 (w32 ((w32 ((2147483648:Int).tdiv a_1))*2))).bind fun r0=>
 bif (!(b_2 == 0)) then
 (z0 x_0 b_2 (w32 ((w32 ((2147483648:Int).tdiv b_2))*2))).bind fun r1=>
 bif (!(c_3 == 0)) then
 bif (!last_4) then
 bif (!(c_3 == 0)) then
 (z0 x_0 c_3 (w32 ((w32 ((2147483648:Int).tdiv c_3))*2))).bind fun r2=>
 some (w32 (((BitVec.toNat ((BitVec.ofInt (IntKind.bits IntKind.u32) (w32 (((BitVec.toNat ((BitVec.ofInt (IntKind.bits IntKind.u32) r0) ^^^ (BitVec.ofInt (IntKind.bits IntKind.u32) r1))):Nat):Int))) ^^^ (BitVec.ofInt (IntKind.bits IntKind.u32) r2))):Nat):Int))
 else none
 else
 some (w32 (((BitVec.toNat ((BitVec.ofInt (IntKind.bits IntKind.u32) (w32 (((BitVec.toNat ((BitVec.ofInt (IntKind.bits IntKind.u32) r0) ^^^ (BitVec.ofInt (IntKind.bits IntKind.u32) r1))):Nat):Int))) ^^^ (BitVec.ofInt (IntKind.bits IntKind.u32) (w32 (x_0.tdiv c_3))))):Nat):Int))
 else none
 else none
 else none
noncomputable def spec_l05S:Nk:=E_spec_l05S spec_l05Right
theorem PAA:Tells ctx PP 130 cv12 cv10 (fun a=>spec_l05S a.1 a.2.1 a.2.2.1 a.2.2.2.1 a.2.2.2.2):=fn_ok0 (hc NAA hl_nil) Tryz.func130 ((fun z0 a=>by kernel_rfl:∀ z0,EntryIs0 ctx PP 130 [] [(133,OAA z0)] cv12 cv10 fun a=>E_spec_l05S z0 a.1 a.2.1 a.2.2.1 a.2.2.2.1 a.2.2.2.2) spec_l05Right)
noncomputable def Uy {γ:Type} (F:Nk):Hd ctx γ:=hdl cv12.dec (fun a=>F a.1 a.2.1 a.2.2.1 a.2.2.2.1 a.2.2.2.2) cv10.enc
abbrev Qb:=(List Int)→(List Int)→ByteArray→Option (List Int)
inductive Ie where
 | c0 (t_0:(List Int)) (o_1:(List Int)) (v_8:Int) (v_7:(List Int))
 | c1 (t_0:(List Int)) (o_1:(List Int)) (v_10:Int) (v_7:(List Int)) (v_9:(List Int))
 | c2 (t_0:(List Int)) (o_1:(List Int)) (v_10:Int) (v_13:Int) (v_15:Int) (v_16:Int) (v_7:(List Int)) (v_9:(List Int))
 | c3 (t_0:(List Int)) (v_18:Int) (v_9:(List Int)) (v_17:(List Int))
noncomputable def Vy:Ie→LI
 | .c0 t_0 o_1 v_8 v_7=>(tdo Tryz.f116 464,[(0,[.one (.rsl 92 t_0)]),(1,[.one (.rsl 92 o_1)]),(7,[.one (.own 496)]),(8,[.one (.int .i64 v_8)])],[(496,.sl 92 v_7)])
 | .c1 t_0 o_1 v_10 v_7 v_9=>(tdo Tryz.f116 2000,[(0,[.one (.rsl 92 t_0)]),(1,[.one (.rsl 92 o_1)]),(7,[.one (.own 496)]),(9,[.one (.own 624)]),(10,[.one (.int .i64 v_10)])],[(496,.sl 92 v_7),(624,.sl 92 v_9)])
 | .c2 t_0 o_1 v_10 v_13 v_15 v_16 v_7 v_9=>(tdo Tryz.f116 8202192,[(0,[.one (.rsl 92 t_0)]),(1,[.one (.rsl 92 o_1)]),(7,[.one (.own 496)]),(9,[.one (.own 624)]),(10,[.one (.int .i64 v_10)]),(13,[.one (.int .u32 v_13)]),(15,[.one (.int .u32 v_15)]),(16,[.one (.int .i64 v_16)])],[(496,.sl 92 v_7),(624,.sl 92 v_9)])
 | .c3 t_0 v_18 v_9 v_17=>(tdo Tryz.f116 8144,[(0,[.one (.rsl 92 t_0)]),(9,[.one (.own 624)]),(17,[.one (.own 1136)]),(18,[.one (.int .i64 v_18)])],[(624,.sl 92 v_9),(1136,.sl 92 v_17)])
noncomputable def E_spec_l05Round (z0:UZ) (z1:Nk) (k:Ie→Option (List Int)) (t_0:(List Int)) (o_1:(List Int)) (A_2:ByteArray):Option (List Int):=
 (z0 A_2).bind fun r0=>
 k (.c0 t_0 o_1 16 r0)
noncomputable def B_spec_l05Round (z0:UZ) (z1:Nk) (k:Ie→Option (List Int)):Ie→Option (List Int)
 | .c0 t_0 o_1 v_8 v_7=>
 bif (decide (v_8<64)) then
  bif ((decide (0≤(w64 (v_8 - 2)))) && (decide ((w64 (v_8 - 2))<(v_7.length:Int)))) then
  (z1 (v_7.getD (w64 (v_8 - 2)).toNat 0) 131072 524288 1024 true).bind fun r0=>
  bif ((decide (0≤(w64 (v_8 - 7)))) && (decide ((w64 (v_8 - 7))<(v_7.length:Int)))) then
  bif ((decide (0≤(w64 (v_8 - 15)))) && (decide ((w64 (v_8 - 15))<(v_7.length:Int)))) then
  (z1 (v_7.getD (w64 (v_8 - 15)).toNat 0) 128 262144 8 true).bind fun r1=>
  bif ((decide (0≤(w64 (v_8 - 16)))) && (decide ((w64 (v_8 - 16))<(v_7.length:Int)))) then
  bif (decide (((v_7.length+1)*4)≤140737488355328)) then
  k (.c0 t_0 o_1 (w64 (v_8+1)) (v_7++[(w32 ((w32 ((w32 (r0+(v_7.getD (w64 (v_8 - 7)).toNat 0)))+r1))+(v_7.getD (w64 (v_8 - 16)).toNat 0)))]))
  else none
  else none
  else none
  else none
  else none
 else
  bif (decide (((0+t_0.length)*4)≤140737488355328)) then
  k (.c1 t_0 o_1 0 v_7 ([]++t_0))
  else none
 | .c1 t_0 o_1 v_10 v_7 v_9=>
 bif (decide (v_10<64)) then
  bif ((decide ((0:Int)≤(4:Int))) && (decide (4<(v_9.length:Int)))) then
  bif ((decide ((0:Int)≤(5:Int))) && (decide (5<(v_9.length:Int)))) then
  bif ((decide ((0:Int)≤(6:Int))) && (decide (6<(v_9.length:Int)))) then
  bif ((decide ((0:Int)≤(7:Int))) && (decide (7<(v_9.length:Int)))) then
  (z1 (v_9.getD (4:Int).toNat 0) 64 2048 33554432 false).bind fun r0=>
  bif ((decide (0≤v_10)) && (decide (v_10<(o_1.length:Int)))) then
  bif ((decide (0≤v_10)) && (decide (v_10<(v_7.length:Int)))) then
  bif ((decide ((0:Int)≤(0:Int))) && (decide (0<(v_9.length:Int)))) then
  bif ((decide ((0:Int)≤(1:Int))) && (decide (1<(v_9.length:Int)))) then
  bif ((decide ((0:Int)≤(0:Int))) && (decide (0<(v_9.length:Int)))) then
  bif ((decide ((0:Int)≤(2:Int))) && (decide (2<(v_9.length:Int)))) then
  bif ((decide ((0:Int)≤(1:Int))) && (decide (1<(v_9.length:Int)))) then
  bif ((decide ((0:Int)≤(2:Int))) && (decide (2<(v_9.length:Int)))) then
  bif ((decide ((0:Int)≤(0:Int))) && (decide (0<(v_9.length:Int)))) then
  (z1 (v_9.getD (0:Int).toNat 0) 4 8192 4194304 false).bind fun r1=>
  k (.c2 t_0 o_1 v_10 (w32 ((w32 ((w32 ((w32 ((v_9.getD (7:Int).toNat 0)+r0))+(w32 (((BitVec.toNat ((BitVec.ofInt (IntKind.bits IntKind.u32) (w32 (((BitVec.toNat ((BitVec.ofInt (IntKind.bits IntKind.u32) (v_9.getD (4:Int).toNat 0)) &&& (BitVec.ofInt (IntKind.bits IntKind.u32) (v_9.getD (5:Int).toNat 0)))):Nat):Int))) ^^^ (BitVec.ofInt (IntKind.bits IntKind.u32) (w32 (((BitVec.toNat ((BitVec.ofInt (IntKind.bits IntKind.u32) (w32 (4294967295 - (v_9.getD (4:Int).toNat 0)))) &&& (BitVec.ofInt (IntKind.bits IntKind.u32) (v_9.getD (6:Int).toNat 0)))):Nat):Int))))):Nat):Int))))+(o_1.getD v_10.toNat 0)))+(v_7.getD v_10.toNat 0))) (w32 (r1+(w32 (((BitVec.toNat ((BitVec.ofInt (IntKind.bits IntKind.u32) (w32 (((BitVec.toNat ((BitVec.ofInt (IntKind.bits IntKind.u32) (w32 (((BitVec.toNat ((BitVec.ofInt (IntKind.bits IntKind.u32) (v_9.getD (0:Int).toNat 0)) &&& (BitVec.ofInt (IntKind.bits IntKind.u32) (v_9.getD (1:Int).toNat 0)))):Nat):Int))) ^^^ (BitVec.ofInt (IntKind.bits IntKind.u32) (w32 (((BitVec.toNat ((BitVec.ofInt (IntKind.bits IntKind.u32) (v_9.getD (0:Int).toNat 0)) &&& (BitVec.ofInt (IntKind.bits IntKind.u32) (v_9.getD (2:Int).toNat 0)))):Nat):Int))))):Nat):Int))) ^^^ (BitVec.ofInt (IntKind.bits IntKind.u32) (w32 (((BitVec.toNat ((BitVec.ofInt (IntKind.bits IntKind.u32) (v_9.getD (1:Int).toNat 0)) &&& (BitVec.ofInt (IntKind.bits IntKind.u32) (v_9.getD (2:Int).toNat 0)))):Nat):Int))))):Nat):Int)))) 7 v_7 v_9)
  else none
  else none
  else none
  else none
  else none
  else none
  else none
  else none
  else none
  else none
  else none
  else none
  else none
 else
  k (.c3 t_0 0 v_9 [])
 | .c2 t_0 o_1 v_10 v_13 v_15 v_16 v_7 v_9=>
 bif (decide (v_16 > 0)) then
  bif ((decide (0≤(w64 (v_16 - 1)))) && (decide ((w64 (v_16 - 1))<(v_9.length:Int)))) then
  bif ((decide (0≤v_16)) && (decide (v_16<(v_9.length:Int)))) then
  k (.c2 t_0 o_1 v_10 v_13 v_15 (w64 (v_16 - 1)) v_7 (v_9.set v_16.toNat (v_9.getD (w64 (v_16 - 1)).toNat 0)))
  else none
  else none
 else
  bif ((decide ((0:Int)≤(4:Int))) && (decide (4<(v_9.length:Int)))) then
  bif ((decide ((0:Int)≤(4:Int))) && (decide (4<(v_9.length:Int)))) then
  bif ((decide ((0:Int)≤(0:Int))) && (decide (0<((v_9.set (4:Int).toNat (w32 ((v_9.getD (4:Int).toNat 0)+v_13))).length:Int)))) then
  k (.c1 t_0 o_1 (w64 (v_10+1)) v_7 ((v_9.set (4:Int).toNat (w32 ((v_9.getD (4:Int).toNat 0)+v_13))).set (0:Int).toNat (w32 (v_13+v_15))))
  else none
  else none
  else none
 | .c3 t_0 v_18 v_9 v_17=>
 bif (decide (v_18<8)) then
  bif ((decide (0≤v_18)) && (decide (v_18<(t_0.length:Int)))) then
  bif ((decide (0≤v_18)) && (decide (v_18<(v_9.length:Int)))) then
  bif (decide (((v_17.length+1)*4)≤140737488355328)) then
  k (.c3 t_0 (w64 (v_18+1)) v_9 (v_17++[(w32 ((t_0.getD v_18.toNat 0)+(v_9.getD v_18.toNat 0)))]))
  else none
  else none
  else none
 else
  some v_17
noncomputable def L_spec_l05Round:Nat→Ie→Option (List Int)
 | 0,_=>none
 | m+1,s=>B_spec_l05Round spec_l05Words spec_l05S (L_spec_l05Round m) s
noncomputable def spec_l05Round:Qb:=E_spec_l05Round spec_l05Words spec_l05S (L_spec_l05Round gas)
theorem Wy:Tells ctx PP 116 cv13 cv4 (fun a=>spec_l05Round a.1 a.2.1 a.2.2):=
 have b:∀ z0 z1,CutIs ctx PP 116 Tryz.f116 [] [(114,Nb z0),(130,Uy z1)] cv4 Vy (B_spec_l05Round z0 z1):=fun z0 z1 _ s=>by cases s <;> kernel_rfl
 have e:∀ z0 z1,EntryIs ctx PP 116 [] [(114,Nb z0),(130,Uy z1)] cv13 cv4 Vy (fun k a=>E_spec_l05Round z0 z1 k a.1 a.2.1 a.2.2):=fun z0 z1 _ a=>by kernel_rfl
 fn_ok (hc Vp (hc PAA hl_nil)) Tryz.func116 (fun s s' h=>by cases s <;> cases s' <;> first | (cases h;done) | (cases h;rfl) | exact (rg_ne h (by kernel_rfl)).elim) (fun _=>rfl) (fun _ _=>rfl) (b spec_l05Words spec_l05S) (e spec_l05Words spec_l05S) gas
noncomputable def Qk {γ:Type} (F:Qb):Hd ctx γ:=hdl cv13.dec (fun a=>F a.1 a.2.1 a.2.2) cv4.enc
abbrev Xp:=SHasher→ByteArray→Option SHasher
inductive Je where
 | c0 (s_1:ByteArray) (buf_7:ByteArray) (at_8:Int) (h_2:SHasher) (v_4:SHasher) (state_5:(List Int)) (k_6:(List Int))
noncomputable def Xy:Je→LI
 | .c0 s_1 buf_7 at_8 h_2 v_4 state_5 k_6=>(tdo Tryz.f82 4064,[(1,[.one (.str s_1)]),(2,[.one (.ptr 128 0)]),(4,[.one (.ptr 256 0)]),(5,[.one (.own 368)]),(6,[.one (.own 432)]),(7,[.one (.str buf_7)]),(8,[.one (.int .i64 at_8)])],[(128,.var [.str h_2.fState,.str h_2.fRest,.int .i64 h_2.fCount]),(256,.var [.str v_4.fState,.str v_4.fRest,.int .i64 v_4.fCount]),(368,.sl 92 state_5),(432,.sl 92 k_6)])
noncomputable def E_spec_HashMore (z0:Jb) (z1:UZ) (z2:Ob) (z3:Qb) (z4:Ua) (k:Je→Option SHasher) (h_0:SHasher) (s_1:ByteArray):Option SHasher:=
 (z0 h_0).bind fun r0=>
 bif (!r0) then
 some h_0
 else
 bif (decide ((w64 (h_0.fCount+(s_1.size:Int))) > 1000000000)) then
  some h_0
 else
  (z1 h_0.fState).bind fun r1=>
  z2.bind fun r2=>
  bif (decide ((h_0.fRest.size+s_1.size)≤9223372036854775807)) then
  k (.c0 s_1 (h_0.fRest++s_1) 0 h_0 ⟨⟨#[]⟩,⟨#[]⟩,0⟩ r1 r2)
  else none
noncomputable def B_spec_HashMore (z0:Jb) (z1:UZ) (z2:Ob) (z3:Qb) (z4:Ua) (k:Je→Option SHasher):Je→Option SHasher
 | .c0 s_1 buf_7 at_8 h_2 v_4 state_5 k_6=>
 bif (decide ((w64 (at_8+64))≤(buf_7.size:Int))) then
  bif (((decide (0≤at_8)) && (decide (at_8≤(w64 (at_8+64))))) && (decide ((w64 (at_8+64))≤(buf_7.size:Int)))) then
  (z3 state_5 k_6 (buf_7.extract at_8.toNat (w64 (at_8+64)).toNat)).bind fun r0=>
  k (.c0 s_1 buf_7 (w64 (at_8+64)) h_2 v_4 r0 k_6)
  else none
 else
  (z4 state_5).bind fun r1=>
  bif ((decide (0≤at_8)) && (decide (at_8≤(buf_7.size:Int)))) then
  some ⟨r1,(buf_7.extract at_8.toNat buf_7.size),(w64 (h_2.fCount+(s_1.size:Int)))⟩
  else none
noncomputable def L_spec_HashMore:Nat→Je→Option SHasher
 | 0,_=>none
 | m+1,s=>B_spec_HashMore spec_HasherOk spec_l05Words spec_l05K spec_l05Round spec_l05Bytes (L_spec_HashMore m) s
noncomputable def spec_HashMore:Xp:=E_spec_HashMore spec_HasherOk spec_l05Words spec_l05K spec_l05Round spec_l05Bytes (L_spec_HashMore gas)
theorem QAA:Tells ctx PP 82 cv14 cv7 (fun a=>spec_HashMore a.1 a.2):=
 have b:∀ z0 z1 z2 z3 z4,CutIs ctx PP 82 Tryz.f82 [] [(113,Ak z0),(114,Nb z1),(115,Jk z2),(116,Qk z3),(117,Fe z4)] cv7 Xy (B_spec_HashMore z0 z1 z2 z3 z4):=fun z0 z1 z2 z3 z4 _ s=>by cases s <;> kernel_rfl
 have e:∀ z0 z1 z2 z3 z4,EntryIs ctx PP 82 [] [(113,Ak z0),(114,Nb z1),(115,Jk z2),(116,Qk z3),(117,Fe z4)] cv14 cv7 Xy (fun k a=>E_spec_HashMore z0 z1 z2 z3 z4 k a.1 a.2):=fun z0 z1 z2 z3 z4 _ a=>by kernel_rfl
 fn_ok (hc Ky (hc Vp (hc Ry (hc Wy (hc Np hl_nil))))) Tryz.func82 (fun s s' h=>by cases s;cases s';(repeat cases ‹SHasher›);cases h;rfl) (fun _=>rfl) (fun _ _=>rfl) (b spec_HasherOk spec_l05Words spec_l05K spec_l05Round spec_l05Bytes) (e spec_HasherOk spec_l05Words spec_l05K spec_l05Round spec_l05Bytes) gas
noncomputable def RAA {γ:Type} (F:Xp):Hd ctx γ:=hdl cv14.dec (fun a=>F a.1 a.2) cv7.enc
abbrev Yp:=SHasher→Option ByteArray
inductive Me where
 | c0 (h_1:SHasher) (tail_3:(List Int))
 | c1 (bits_4:Int) (i_5:Int) (h_1:SHasher) (tail_3:(List Int))
 | c2 (bits_4:Int) (i_5:Int) (x_6:Int) (k_7:Int) (h_1:SHasher) (tail_3:(List Int))
 | c3 (at_10:Int) (tail_3:(List Int)) (state_8:(List Int)) (k_9:(List Int))
noncomputable def Yy:Me→LI
 | .c0 h_1 tail_3=>(tdo Tryz.f81 992,[(1,[.one (.ptr 64 0)]),(3,[.one (.own 240)])],[(64,.var [.str h_1.fState,.str h_1.fRest,.int .i64 h_1.fCount]),(240,.sl 5 tail_3)])
 | .c1 bits_4 i_5 h_1 tail_3=>(tdo Tryz.f81 8144,[(1,[.one (.ptr 64 0)]),(3,[.one (.own 240)]),(4,[.one (.int .i64 bits_4)]),(5,[.one (.int .i64 i_5)])],[(64,.var [.str h_1.fState,.str h_1.fRest,.int .i64 h_1.fCount]),(240,.sl 5 tail_3)])
 | .c2 bits_4 i_5 x_6 k_7 h_1 tail_3=>(tdo Tryz.f81 2085456,[(1,[.one (.ptr 64 0)]),(3,[.one (.own 240)]),(4,[.one (.int .i64 bits_4)]),(5,[.one (.int .i64 i_5)]),(6,[.one (.int .i64 x_6)]),(7,[.one (.int .i64 k_7)])],[(64,.var [.str h_1.fState,.str h_1.fRest,.int .i64 h_1.fCount]),(240,.sl 5 tail_3)])
 | .c3 at_10 tail_3 state_8 k_9=>(tdo Tryz.f81 65488,[(3,[.one (.own 240)]),(8,[.one (.own 560)]),(9,[.one (.own 624)]),(10,[.one (.int .i64 at_10)])],[(240,.sl 5 tail_3),(560,.sl 92 state_8),(624,.sl 92 k_9)])
noncomputable def E_spec_HashEnd (z0:Jb) (z1:UZ) (z2:Ob) (z3:Qb) (z4:Ua) (k:Me→Option ByteArray) (h_0:SHasher):Option ByteArray:=
 (z0 h_0).bind fun r0=>
 bif (!r0) then
 some ⟨#[]⟩
 else
 bif (decide (h_0.fRest.size≤9223372036854775807)) then
 bif (decide ((((bytesOf h_0.fRest).length+1)*1)≤140737488355328)) then
 k (.c0 h_0 ((bytesOf h_0.fRest)++[(128:Int)]))
 else none
 else none
noncomputable def B_spec_HashEnd (z0:Jb) (z1:UZ) (z2:Ob) (z3:Qb) (z4:Ua) (k:Me→Option ByteArray):Me→Option ByteArray
 | .c0 h_1 tail_3=>
 bif (((tail_3.length:Int).tmod 64) != 56) then
  bif (decide (((tail_3.length+1)*1)≤140737488355328)) then
  k (.c0 h_1 (tail_3++[(0:Int)]))
  else none
 else
  k (.c1 (w64 (8*h_1.fCount)) 7 h_1 tail_3)
 | .c1 bits_4 i_5 h_1 tail_3=>
 bif (decide (i_5≥0)) then
  k (.c2 bits_4 i_5 bits_4 0 h_1 tail_3)
 else
  (z1 h_1.fState).bind fun r0=>
  z2.bind fun r1=>
  k (.c3 0 tail_3 r0 r1)
 | .c2 bits_4 i_5 x_6 k_7 h_1 tail_3=>
 bif (decide (k_7<i_5)) then
  k (.c2 bits_4 i_5 (w64 (x_6.tdiv 256)) (w64 (k_7+1)) h_1 tail_3)
 else
  bif (decide (((tail_3.length+1)*1)≤140737488355328)) then
  k (.c1 bits_4 (w64 (i_5 - 1)) h_1 (tail_3++[(w8 (x_6.tmod 256))]))
  else none
 | .c3 at_10 tail_3 state_8 k_9=>
 bif (decide (at_10<(tail_3.length:Int))) then
  bif (((decide (0≤at_10)) && (decide (at_10≤(w64 (at_10+64))))) && (decide ((w64 (at_10+64))≤(tail_3.length:Int)))) then
  (z3 state_8 k_9 (ofBytes ((tail_3.drop at_10.toNat).take ((w64 (at_10+64)).toNat - at_10.toNat)))).bind fun r0=>
  k (.c3 (w64 (at_10+64)) tail_3 r0 k_9)
  else none
 else
  (z4 state_8).bind fun r1=>
  some r1
noncomputable def L_spec_HashEnd:Nat→Me→Option ByteArray
 | 0,_=>none
 | m+1,s=>B_spec_HashEnd spec_HasherOk spec_l05Words spec_l05K spec_l05Round spec_l05Bytes (L_spec_HashEnd m) s
noncomputable def spec_HashEnd:Yp:=E_spec_HashEnd spec_HasherOk spec_l05Words spec_l05K spec_l05Round spec_l05Bytes (L_spec_HashEnd gas)
theorem SAA:Tells ctx PP 81 cv7 cv6 (fun a=>spec_HashEnd a):=
 have b:∀ z0 z1 z2 z3 z4,CutIs ctx PP 81 Tryz.f81 [] [(113,Ak z0),(114,Nb z1),(115,Jk z2),(116,Qk z3),(117,Fe z4)] cv6 Yy (B_spec_HashEnd z0 z1 z2 z3 z4):=fun z0 z1 z2 z3 z4 _ s=>by cases s <;> kernel_rfl
 have e:∀ z0 z1 z2 z3 z4,EntryIs ctx PP 81 [] [(113,Ak z0),(114,Nb z1),(115,Jk z2),(116,Qk z3),(117,Fe z4)] cv7 cv6 Yy (fun k a=>E_spec_HashEnd z0 z1 z2 z3 z4 k a):=fun z0 z1 z2 z3 z4 _ a=>by kernel_rfl
 fn_ok (hc Ky (hc Vp (hc Ry (hc Wy (hc Np hl_nil))))) Tryz.func81 (fun s s' h=>by cases s <;> cases s' <;> first | ((repeat cases ‹SHasher›);cases h;done) | ((repeat cases ‹SHasher›);cases h;rfl) | exact (rg_ne h (by kernel_rfl)).elim) (fun _=>rfl) (fun _ _=>rfl) (b spec_HasherOk spec_l05Words spec_l05K spec_l05Round spec_l05Bytes) (e spec_HasherOk spec_l05Words spec_l05K spec_l05Round spec_l05Bytes) gas
noncomputable def TAA {γ:Type} (F:Yp):Hd ctx γ:=hdl cv7.dec (fun a=>F a) cv6.enc
abbrev GZ:=ByteArray→Option ByteArray
noncomputable def E_spec_DigestOf (z0:Qp) (z1:Xp) (z2:Yp) (s_0:ByteArray):Option ByteArray:=
 z0.bind fun r0=>
 (z1 r0 s_0).bind fun r1=>
 (z2 r1).bind fun r2=>
 some r2
noncomputable def spec_DigestOf:GZ:=E_spec_DigestOf spec_HasherNew spec_HashMore spec_HashEnd
theorem Ub:Tells ctx PP 42 cv6 cv6 (fun a=>spec_DigestOf a):=fn_ok0 (hc KAA (hc QAA (hc SAA hl_nil))) Tryz.func42 ((fun z0 z1 z2 a=>by kernel_rfl:∀ z0 z1 z2,EntryIs0 ctx PP 42 [] [(83,LAA z0),(82,RAA z1),(81,TAA z2)] cv6 cv6 fun a=>E_spec_DigestOf z0 z1 z2 a) spec_HasherNew spec_HashMore spec_HashEnd)
noncomputable def VZ {γ:Type} (F:GZ):Hd ctx γ:=hdl cv6.dec (fun a=>F a) cv6.enc
abbrev Zp:=Int→Int→Option ByteArray
inductive Oe where
 | c0 (n_0:Int) (x_1:Int) (i_6:Int) (out_5:(List Int))
noncomputable def Zy:Oe→LI
 | .c0 n_0 x_1 i_6 out_5=>(tdo Tryz.f43 464,[(0,[.one (.int .i64 n_0)]),(1,[.one (.int .u8 x_1)]),(5,[.one (.own 368)]),(6,[.one (.int .i64 i_6)])],[(368,.sl 5 out_5)])
noncomputable def E_spec_l01Long (k:Oe→Option ByteArray) (n_0:Int) (x_1:Int):Option ByteArray:=
 bif ((((decide (0≤n_0)) && (decide (n_0≤n_0))) && (decide (n_0≤9223372036854775807))) && (decide ((n_0.toNat*1)≤140737488355328))) then
 k (.c0 n_0 x_1 0 (List.replicate n_0.toNat (0:Int)))
 else none
noncomputable def B_spec_l01Long (k:Oe→Option ByteArray):Oe→Option ByteArray
 | .c0 n_0 x_1 i_6 out_5=>
 bif (decide (i_6<n_0)) then
  bif ((decide (0≤i_6)) && (decide (i_6<(out_5.length:Int)))) then
  k (.c0 n_0 x_1 (w64 (i_6+1)) (out_5.set i_6.toNat x_1))
  else none
 else
  some (ofBytes out_5)
noncomputable def L_spec_l01Long:Nat→Oe→Option ByteArray
 | 0,_=>none
 | m+1,s=>B_spec_l01Long (L_spec_l01Long m) s
noncomputable def spec_l01Long:Zp:=E_spec_l01Long (L_spec_l01Long gas)
theorem UAA:Tells ctx PP 43 cv15 cv6 (fun a=>spec_l01Long a.1 a.2):=
 have b:CutIs ctx PP 43 Tryz.f43 [] [] cv6 Zy (B_spec_l01Long):=fun _ s=>by cases s <;> kernel_rfl
 have e:EntryIs ctx PP 43 [] [] cv15 cv6 Zy (fun k a=>E_spec_l01Long k a.1 a.2):=fun _ a=>by kernel_rfl
 fn_ok hl_nil Tryz.func43 (fun s s' h=>by cases s;cases s';cases h;rfl) (fun _=>rfl) (fun _ _=>rfl) b e gas
noncomputable def VAA {γ:Type} (F:Zp):Hd ctx γ:=hdl cv15.dec (fun a=>F a.1 a.2) cv6.enc
abbrev Fb:=Option SBook
noncomputable def E_spec_BookNew (z0:GZ) (z1:Zp)  : Option SBook:=
 (z0 ⟨#[]⟩).bind fun r0=>
 (z1 32 0).bind fun r1=>
 some ⟨r0,0,[],0,r1,0⟩
noncomputable def spec_BookNew:Fb:=E_spec_BookNew spec_DigestOf spec_l01Long
theorem Dx:Tells ctx PP 15 cv3 cv16 (fun _=>spec_BookNew):=fn_ok0 (hc Ub (hc UAA hl_nil)) Tryz.func15 ((fun z0 z1 _=>by kernel_rfl:∀ z0 z1,EntryIs0 ctx PP 15 [] [(42,VZ z0),(43,VAA z1)] cv3 cv16 fun _=>E_spec_BookNew z0 z1) spec_DigestOf spec_l01Long)
noncomputable def Wj {γ:Type} (F:Fb):Hd ctx γ:=hdl cv3.dec (fun _=>F) cv16.enc
abbrev Ea:=SL01Cur→Option (Int×SL01Cur)
noncomputable def E_spec_l01Byte (c_0:SL01Cur):Option (Int×SL01Cur):=
 bif (decide (c_0.fI<(codeL.length:Int))) then
 bif ((decide (0≤c_0.fI)) && (decide (c_0.fI<(codeL.length:Int)))) then
 bif (Nat.blt c_0.fI.toNat codeL.length) then
 some ((w64 (((BitVec.toNat ((BitVec.ofInt (IntKind.bits IntKind.i64) (w64 ((w64 (((BitVec.toNat ((BitVec.ofInt (IntKind.bits IntKind.i64) (w64 (((BitVec.toNat ((BitVec.ofInt (IntKind.bits IntKind.i64) (Int.fdiv (w64 ((w64 (c_0.fH*6364136223846793005))+1442695040888963407)) (2 ^ (Min.min (33:Int).toNat (IntKind.bits IntKind.i64))))) ^^^ (BitVec.ofInt (IntKind.bits IntKind.i64) (Int.fdiv (w64 ((w64 (c_0.fH*6364136223846793005))+1442695040888963407)) (2 ^ (Min.min (45:Int).toNat (IntKind.bits IntKind.i64))))))):Nat):Int))) &&& (BitVec.ofInt (IntKind.bits IntKind.i64) 255))):Nat):Int))+(w64 (codeL.getD c_0.fI.toNat 0))))) &&& (BitVec.ofInt (IntKind.bits IntKind.i64) 255))):Nat):Int)),⟨(),(w64 (c_0.fI+1)),(w64 ((w64 (c_0.fH*6364136223846793005))+1442695040888963407))⟩)
 else none
 else none
 else
 some ((w64 (((BitVec.toNat ((BitVec.ofInt (IntKind.bits IntKind.i64) (w64 (((BitVec.toNat ((BitVec.ofInt (IntKind.bits IntKind.i64) (Int.fdiv (w64 ((w64 (c_0.fH*6364136223846793005))+1442695040888963407)) (2 ^ (Min.min (33:Int).toNat (IntKind.bits IntKind.i64))))) ^^^ (BitVec.ofInt (IntKind.bits IntKind.i64) (Int.fdiv (w64 ((w64 (c_0.fH*6364136223846793005))+1442695040888963407)) (2 ^ (Min.min (45:Int).toNat (IntKind.bits IntKind.i64))))))):Nat):Int))) &&& (BitVec.ofInt (IntKind.bits IntKind.i64) 255))):Nat):Int)),⟨(),c_0.fI,(w64 ((w64 (c_0.fH*6364136223846793005))+1442695040888963407))⟩)
noncomputable def spec_l01Byte:Ea:=E_spec_l01Byte
theorem Io:Tells ctx PP 31 cv17 cv18 (fun a=>spec_l01Byte a):=fn_ok0 hl_nil Tryz.func31 (fun a=>by kernel_rfl:EntryIs0 ctx PP 31 [0] [] cv17 cv18 fun a=>E_spec_l01Byte a)
noncomputable def Bd {γ:Type} (F:Ea):Hd ctx γ:=hdl cv17.dec (fun a=>F a) cv18.enc
abbrev AZ:=SL01Cur→Int→Option (Int×SL01Cur)
noncomputable def E_spec_l01Below (z0:Ea) (c_0:SL01Cur) (n_1:Int):Option (Int×SL01Cur):=
 bif (decide (n_1≤0)) then
 some (0,⟨(),c_0.fI,c_0.fH⟩)
 else
 bif (decide (n_1≤256)) then
  (z0 ⟨(),c_0.fI,c_0.fH⟩).bind fun r0=>
  bif (!(n_1 == 0)) then
  some ((r0.1.tmod n_1),⟨(),r0.2.fI,r0.2.fH⟩)
  else none
 else
  (z0 ⟨(),c_0.fI,c_0.fH⟩).bind fun r1=>
  (z0 ⟨(),r1.2.fI,r1.2.fH⟩).bind fun r2=>
  (z0 ⟨(),r2.2.fI,r2.2.fH⟩).bind fun r3=>
  (z0 ⟨(),r3.2.fI,r3.2.fH⟩).bind fun r4=>
  bif (!(n_1 == 0)) then
  some (((w64 ((w64 ((w64 ((w64 (r1.1*16777216))+(w64 (r2.1*65536))))+(w64 (r3.1*256))))+r4.1)).tmod n_1),⟨(),r4.2.fI,r4.2.fH⟩)
  else none
noncomputable def spec_l01Below:AZ:=E_spec_l01Below spec_l01Byte
theorem Fa:Tells ctx PP 32 cv19 cv18 (fun a=>spec_l01Below a.1 a.2):=fn_ok0 (hc Io hl_nil) Tryz.func32 ((fun z0 a=>by kernel_rfl:∀ z0,EntryIs0 ctx PP 32 [0] [(31,Bd z0)] cv19 cv18 fun a=>E_spec_l01Below z0 a.1 a.2) spec_l01Byte)
noncomputable def LZ {γ:Type} (F:AZ):Hd ctx γ:=hdl cv19.dec (fun a=>F a.1 a.2) cv18.enc
abbrev Aq:=SL01Cur→(List Int)→Option (Int×SL01Cur)
noncomputable def E_spec_l01PickInt (z0:AZ) (c_0:SL01Cur) (list_1:(List Int)):Option (Int×SL01Cur):=
 (z0 ⟨(),c_0.fI,c_0.fH⟩ (list_1.length:Int)).bind fun r0=>
 bif ((decide (0≤r0.1)) && (decide (r0.1<(list_1.length:Int)))) then
 some ((list_1.getD r0.1.toNat 0),⟨(),r0.2.fI,r0.2.fH⟩)
 else none
noncomputable def spec_l01PickInt:Aq:=E_spec_l01PickInt spec_l01Below
theorem WAA:Tells ctx PP 90 cv20 cv18 (fun a=>spec_l01PickInt a.1 a.2):=fn_ok0 (hc Fa hl_nil) Tryz.func90 ((fun z0 a=>by kernel_rfl:∀ z0,EntryIs0 ctx PP 90 [0] [(32,LZ z0)] cv20 cv18 fun a=>E_spec_l01PickInt z0 a.1 a.2) spec_l01Below)
noncomputable def XAA {γ:Type} (F:Aq):Hd ctx γ:=hdl cv20.dec (fun a=>F a.1 a.2) cv18.enc
abbrev Rk:=SL01Cur→(List ByteArray)→Option (ByteArray×SL01Cur)
noncomputable def E_spec_l01Pick (z0:AZ) (c_0:SL01Cur) (list_1:(List ByteArray)):Option (ByteArray×SL01Cur):=
 (z0 ⟨(),c_0.fI,c_0.fH⟩ (list_1.length:Int)).bind fun r0=>
 bif ((decide (0≤r0.1)) && (decide (r0.1<(list_1.length:Int)))) then
 some ((list_1.getD r0.1.toNat (⟨#[]⟩:ByteArray)),⟨(),r0.2.fI,r0.2.fH⟩)
 else none
noncomputable def spec_l01Pick:Rk:=E_spec_l01Pick spec_l01Below
theorem Az:Tells ctx PP 91 cv21 cv22 (fun a=>spec_l01Pick a.1 a.2):=fn_ok0 (hc Fa hl_nil) Tryz.func91 ((fun z0 a=>by kernel_rfl:∀ z0,EntryIs0 ctx PP 91 [0] [(32,LZ z0)] cv21 cv22 fun a=>E_spec_l01Pick z0 a.1 a.2) spec_l01Below)
noncomputable def Bz {γ:Type} (F:Rk):Hd ctx γ:=hdl cv21.dec (fun a=>F a.1 a.2) cv22.enc
abbrev Uk:=SL01Cur→Int→Option (Bool×SL01Cur)
noncomputable def E_spec_l01Once (z0:AZ) (c_0:SL01Cur) (n_1:Int):Option (Bool×SL01Cur):=
 (z0 ⟨(),c_0.fI,c_0.fH⟩ n_1).bind fun r0=>
 some ((r0.1 == 0),⟨(),r0.2.fI,r0.2.fH⟩)
noncomputable def spec_l01Once:Uk:=E_spec_l01Once spec_l01Below
theorem Dz:Tells ctx PP 93 cv19 cv23 (fun a=>spec_l01Once a.1 a.2):=fn_ok0 (hc Fa hl_nil) Tryz.func93 ((fun z0 a=>by kernel_rfl:∀ z0,EntryIs0 ctx PP 93 [0] [(32,LZ z0)] cv19 cv23 fun a=>E_spec_l01Once z0 a.1 a.2) spec_l01Below)
noncomputable def Ez {γ:Type} (F:Uk):Hd ctx γ:=hdl cv19.dec (fun a=>F a.1 a.2) cv23.enc
abbrev Bq:=SL01Cur→Int→Option (ByteArray×SL01Cur)
inductive Qe where
 | c0 (n_1:Int) (i_6:Int) (c_0c1:Int) (c_0c2:Int) (out_5:(List Int))
noncomputable def Fz:Qe→LI
 | .c0 n_1 i_6 c_0c1 c_0c2 out_5=>(tdo Tryz.f122 976,[(0,[.one (.ptr 0 0)]),(1,[.one (.int .i64 n_1)]),(5,[.one (.own 368)]),(6,[.one (.int .i64 i_6)])],[(0,.var [.csl,.int .i64 c_0c1,.int .i64 c_0c2]),(368,.sl 5 out_5)])
noncomputable def E_spec_l01Text (z0:Ea) (k:Qe→Option (ByteArray×SL01Cur)) (c_0:SL01Cur) (n_1:Int):Option (ByteArray×SL01Cur):=
 bif (decide (n_1 > 5000)) then
 k (.c0 5000 0 c_0.fI c_0.fH [])
 else
 k (.c0 n_1 0 c_0.fI c_0.fH [])
noncomputable def B_spec_l01Text (z0:Ea) (k:Qe→Option (ByteArray×SL01Cur)):Qe→Option (ByteArray×SL01Cur)
 | .c0 n_1 i_6 c_0c1 c_0c2 out_5=>
 bif (decide (i_6<n_1)) then
  (z0 ⟨(),c_0c1,c_0c2⟩).bind fun r0=>
  bif (decide (((out_5.length+1)*1)≤140737488355328)) then
  k (.c0 n_1 (w64 (i_6+1)) r0.2.fI r0.2.fH (out_5++[(w8 r0.1)]))
  else none
 else
  some ((ofBytes out_5),⟨(),c_0c1,c_0c2⟩)
noncomputable def L_spec_l01Text:Nat→Qe→Option (ByteArray×SL01Cur)
 | 0,_=>none
 | m+1,s=>B_spec_l01Text spec_l01Byte (L_spec_l01Text m) s
noncomputable def spec_l01Text:Bq:=E_spec_l01Text spec_l01Byte (L_spec_l01Text gas)
theorem YAA:Tells ctx PP 122 cv19 cv22 (fun a=>spec_l01Text a.1 a.2):=
 have b:∀ z0,CutIs ctx PP 122 Tryz.f122 [0] [(31,Bd z0)] cv22 Fz (B_spec_l01Text z0):=fun z0 _ s=>by cases s <;> kernel_rfl
 have e:∀ z0,EntryIs ctx PP 122 [0] [(31,Bd z0)] cv19 cv22 Fz (fun k a=>E_spec_l01Text z0 k a.1 a.2):=fun z0 _ a=>by kernel_rfl
 fn_ok (hc Io hl_nil) Tryz.func122 (fun s s' h=>by cases s;cases s';cases h;rfl) (fun _=>rfl) (fun _ _=>rfl) (b spec_l01Byte) (e spec_l01Byte) gas
noncomputable def ZAA {γ:Type} (F:Bq):Hd ctx γ:=hdl cv19.dec (fun a=>F a.1 a.2) cv22.enc
abbrev Dq:=SL01Cur→Option (SThing×SL01Cur)
noncomputable def E_spec_l19Thing (z0:AZ) (z1:Uk) (z2:Bq) (z3:Rk) (z4:GZ) (c_0:SL01Cur):Option (SThing×SL01Cur):=
 (z0 ⟨(),c_0.fI,c_0.fH⟩ 6).bind fun r0=>
 (z0 ⟨(),r0.2.fI,r0.2.fH⟩ 3).bind fun r1=>
 (z1 ⟨(),r1.2.fI,r1.2.fH⟩ 2).bind fun r2=>
 (z1 ⟨(),r2.2.fI,r2.2.fH⟩ 2).bind fun r3=>
 bif ((w64 (1+r1.1)) == 3) then
 (z0 ⟨(),r3.2.fI,r3.2.fH⟩ 9).bind fun r4=>
 (z2 ⟨(),r4.2.fI,r4.2.fH⟩ r4.1).bind fun r5=>
 some (⟨(w64 (1+r0.1)),(w64 (1+r1.1)),r2.1,r3.1,false,false,r5.1,0⟩,⟨(),r5.2.fI,r5.2.fH⟩)
 else
 bif ((w64 (1+r1.1)) == 2) then
  (z0 ⟨(),r3.2.fI,r3.2.fH⟩ 17).bind fun r6=>
  (z1 ⟨(),r6.2.fI,r6.2.fH⟩ 4).bind fun r7=>
  (z3 ⟨(),r7.2.fI,r7.2.fH⟩ [⟨#[97]⟩,⟨#[98]⟩,⟨#[99]⟩]).bind fun r8=>
  (z4 r8.1).bind fun r9=>
  some (⟨(w64 (1+r0.1)),(w64 (1+r1.1)),r2.1,r3.1,(!r7.1),false,r9,r6.1⟩,⟨(),r8.2.fI,r8.2.fH⟩)
 else
  (z1 ⟨(),r3.2.fI,r3.2.fH⟩ 4).bind fun r10=>
  (z3 ⟨(),r10.2.fI,r10.2.fH⟩ [⟨#[97]⟩,⟨#[98]⟩,⟨#[99]⟩]).bind fun r11=>
  (z4 r11.1).bind fun r12=>
  some (⟨(w64 (1+r0.1)),(w64 (1+r1.1)),r2.1,r3.1,false,(!r10.1),r12,0⟩,⟨(),r11.2.fI,r11.2.fH⟩)
noncomputable def spec_l19Thing:Dq:=E_spec_l19Thing spec_l01Below spec_l01Once spec_l01Text spec_l01Pick spec_DigestOf
theorem AAB:Tells ctx PP 92 cv17 cv24 (fun a=>spec_l19Thing a):=fn_ok0 (hc Fa (hc Dz (hc YAA (hc Az (hc Ub hl_nil))))) Tryz.func92 ((fun z0 z1 z2 z3 z4 a=>by kernel_rfl:∀ z0 z1 z2 z3 z4,EntryIs0 ctx PP 92 [0] [(32,LZ z0),(93,Ez z1),(122,ZAA z2),(91,Bz z3),(42,VZ z4)] cv17 cv24 fun a=>E_spec_l19Thing z0 z1 z2 z3 z4 a) spec_l01Below spec_l01Once spec_l01Text spec_l01Pick spec_DigestOf)
noncomputable def BAB {γ:Type} (F:Dq):Hd ctx γ:=hdl cv17.dec (fun a=>F a) cv24.enc
abbrev Vk:=SL01Cur→SBook→Option (SRec×SL01Cur)
noncomputable def E_spec_l21Rec (z0:Aq) (z1:Rk) (z2:GZ) (z3:AZ) (z4:Dq) (z5:Uk) (c_0:SL01Cur) (b_1:SBook):Option (SRec×SL01Cur):=
 (z0 ⟨(),c_0.fI,c_0.fH⟩ [1,2,3,3,3,3,4]).bind fun r0=>
 bif (r0.1 == 1) then
 (z1 ⟨(),r0.2.fI,r0.2.fH⟩ [⟨#[]⟩,⟨#[119]⟩,⟨#[112,105,110]⟩]).bind fun r1=>
 (z2 r1.1).bind fun r2=>
 some (⟨r0.1,r2,0,⟨0,0,false,false,false,false,⟨#[]⟩,0⟩⟩,⟨(),r1.2.fI,r1.2.fH⟩)
 else
 bif (r0.1 == 2) then
  (z3 ⟨(),r0.2.fI,r0.2.fH⟩ 4).bind fun r3=>
  some (⟨r0.1,⟨#[]⟩,r3.1,⟨0,0,false,false,false,false,⟨#[]⟩,0⟩⟩,⟨(),r3.2.fI,r3.2.fH⟩)
 else
  bif (r0.1 == 3) then
  (z4 ⟨(),r0.2.fI,r0.2.fH⟩).bind fun r4=>
  bif (decide ((b_1.fThings.length:Int) > 0)) then
   (z5 ⟨(),r4.2.fI,r4.2.fH⟩ 2).bind fun r5=>
   bif r5.1 then
   (z3 ⟨(),r5.2.fI,r5.2.fH⟩ (b_1.fThings.length:Int)).bind fun r6=>
   bif ((decide (0≤r6.1)) && (decide (r6.1<(b_1.fThings.length:Int)))) then
   bif (b_1.fThings.getD r6.1.toNat (⟨0,0,false,false,false,false,⟨#[]⟩,0⟩:SThing)).fHidden then
    bif (b_1.fThings.getD r6.1.toNat (⟨0,0,false,false,false,false,⟨#[]⟩,0⟩:SThing)).fFixed then
    bif ((b_1.fThings.getD r6.1.toNat (⟨0,0,false,false,false,false,⟨#[]⟩,0⟩:SThing)).fKind == 2) then
     bif (decide ((b_1.fThings.getD r6.1.toNat (⟨0,0,false,false,false,false,⟨#[]⟩,0⟩:SThing)).fNext<16)) then
     (z3 ⟨(),r6.2.fI,r6.2.fH⟩ 2).bind fun r7=>
     some (⟨r0.1,⟨#[]⟩,0,⟨(b_1.fThings.getD r6.1.toNat (⟨0,0,false,false,false,false,⟨#[]⟩,0⟩:SThing)).fId,(b_1.fThings.getD r6.1.toNat (⟨0,0,false,false,false,false,⟨#[]⟩,0⟩:SThing)).fKind,true,true,(b_1.fThings.getD r6.1.toNat (⟨0,0,false,false,false,false,⟨#[]⟩,0⟩:SThing)).fSigns,(b_1.fThings.getD r6.1.toNat (⟨0,0,false,false,false,false,⟨#[]⟩,0⟩:SThing)).fWraps,(b_1.fThings.getD r6.1.toNat (⟨0,0,false,false,false,false,⟨#[]⟩,0⟩:SThing)).fValue,(w64 ((b_1.fThings.getD r6.1.toNat (⟨0,0,false,false,false,false,⟨#[]⟩,0⟩:SThing)).fNext+r7.1))⟩⟩,⟨(),r7.2.fI,r7.2.fH⟩)
     else
     some (⟨r0.1,⟨#[]⟩,0,⟨(b_1.fThings.getD r6.1.toNat (⟨0,0,false,false,false,false,⟨#[]⟩,0⟩:SThing)).fId,(b_1.fThings.getD r6.1.toNat (⟨0,0,false,false,false,false,⟨#[]⟩,0⟩:SThing)).fKind,true,true,(b_1.fThings.getD r6.1.toNat (⟨0,0,false,false,false,false,⟨#[]⟩,0⟩:SThing)).fSigns,(b_1.fThings.getD r6.1.toNat (⟨0,0,false,false,false,false,⟨#[]⟩,0⟩:SThing)).fWraps,(b_1.fThings.getD r6.1.toNat (⟨0,0,false,false,false,false,⟨#[]⟩,0⟩:SThing)).fValue,(b_1.fThings.getD r6.1.toNat (⟨0,0,false,false,false,false,⟨#[]⟩,0⟩:SThing)).fNext⟩⟩,⟨(),r6.2.fI,r6.2.fH⟩)
    else
     some (⟨r0.1,⟨#[]⟩,0,⟨(b_1.fThings.getD r6.1.toNat (⟨0,0,false,false,false,false,⟨#[]⟩,0⟩:SThing)).fId,(b_1.fThings.getD r6.1.toNat (⟨0,0,false,false,false,false,⟨#[]⟩,0⟩:SThing)).fKind,true,true,(b_1.fThings.getD r6.1.toNat (⟨0,0,false,false,false,false,⟨#[]⟩,0⟩:SThing)).fSigns,(b_1.fThings.getD r6.1.toNat (⟨0,0,false,false,false,false,⟨#[]⟩,0⟩:SThing)).fWraps,(b_1.fThings.getD r6.1.toNat (⟨0,0,false,false,false,false,⟨#[]⟩,0⟩:SThing)).fValue,(b_1.fThings.getD r6.1.toNat (⟨0,0,false,false,false,false,⟨#[]⟩,0⟩:SThing)).fNext⟩⟩,⟨(),r6.2.fI,r6.2.fH⟩)
    else
    (z5 ⟨(),r6.2.fI,r6.2.fH⟩ 2).bind fun r8=>
    bif ((b_1.fThings.getD r6.1.toNat (⟨0,0,false,false,false,false,⟨#[]⟩,0⟩:SThing)).fKind == 2) then
     bif (decide ((b_1.fThings.getD r6.1.toNat (⟨0,0,false,false,false,false,⟨#[]⟩,0⟩:SThing)).fNext<16)) then
     (z3 ⟨(),r8.2.fI,r8.2.fH⟩ 2).bind fun r9=>
     some (⟨r0.1,⟨#[]⟩,0,⟨(b_1.fThings.getD r6.1.toNat (⟨0,0,false,false,false,false,⟨#[]⟩,0⟩:SThing)).fId,(b_1.fThings.getD r6.1.toNat (⟨0,0,false,false,false,false,⟨#[]⟩,0⟩:SThing)).fKind,true,r8.1,(b_1.fThings.getD r6.1.toNat (⟨0,0,false,false,false,false,⟨#[]⟩,0⟩:SThing)).fSigns,(b_1.fThings.getD r6.1.toNat (⟨0,0,false,false,false,false,⟨#[]⟩,0⟩:SThing)).fWraps,(b_1.fThings.getD r6.1.toNat (⟨0,0,false,false,false,false,⟨#[]⟩,0⟩:SThing)).fValue,(w64 ((b_1.fThings.getD r6.1.toNat (⟨0,0,false,false,false,false,⟨#[]⟩,0⟩:SThing)).fNext+r9.1))⟩⟩,⟨(),r9.2.fI,r9.2.fH⟩)
     else
     some (⟨r0.1,⟨#[]⟩,0,⟨(b_1.fThings.getD r6.1.toNat (⟨0,0,false,false,false,false,⟨#[]⟩,0⟩:SThing)).fId,(b_1.fThings.getD r6.1.toNat (⟨0,0,false,false,false,false,⟨#[]⟩,0⟩:SThing)).fKind,true,r8.1,(b_1.fThings.getD r6.1.toNat (⟨0,0,false,false,false,false,⟨#[]⟩,0⟩:SThing)).fSigns,(b_1.fThings.getD r6.1.toNat (⟨0,0,false,false,false,false,⟨#[]⟩,0⟩:SThing)).fWraps,(b_1.fThings.getD r6.1.toNat (⟨0,0,false,false,false,false,⟨#[]⟩,0⟩:SThing)).fValue,(b_1.fThings.getD r6.1.toNat (⟨0,0,false,false,false,false,⟨#[]⟩,0⟩:SThing)).fNext⟩⟩,⟨(),r8.2.fI,r8.2.fH⟩)
    else
     some (⟨r0.1,⟨#[]⟩,0,⟨(b_1.fThings.getD r6.1.toNat (⟨0,0,false,false,false,false,⟨#[]⟩,0⟩:SThing)).fId,(b_1.fThings.getD r6.1.toNat (⟨0,0,false,false,false,false,⟨#[]⟩,0⟩:SThing)).fKind,true,r8.1,(b_1.fThings.getD r6.1.toNat (⟨0,0,false,false,false,false,⟨#[]⟩,0⟩:SThing)).fSigns,(b_1.fThings.getD r6.1.toNat (⟨0,0,false,false,false,false,⟨#[]⟩,0⟩:SThing)).fWraps,(b_1.fThings.getD r6.1.toNat (⟨0,0,false,false,false,false,⟨#[]⟩,0⟩:SThing)).fValue,(b_1.fThings.getD r6.1.toNat (⟨0,0,false,false,false,false,⟨#[]⟩,0⟩:SThing)).fNext⟩⟩,⟨(),r8.2.fI,r8.2.fH⟩)
   else
    (z5 ⟨(),r6.2.fI,r6.2.fH⟩ 2).bind fun r10=>
    bif (b_1.fThings.getD r6.1.toNat (⟨0,0,false,false,false,false,⟨#[]⟩,0⟩:SThing)).fFixed then
    bif ((b_1.fThings.getD r6.1.toNat (⟨0,0,false,false,false,false,⟨#[]⟩,0⟩:SThing)).fKind == 2) then
     bif (decide ((b_1.fThings.getD r6.1.toNat (⟨0,0,false,false,false,false,⟨#[]⟩,0⟩:SThing)).fNext<16)) then
     (z3 ⟨(),r10.2.fI,r10.2.fH⟩ 2).bind fun r11=>
     some (⟨r0.1,⟨#[]⟩,0,⟨(b_1.fThings.getD r6.1.toNat (⟨0,0,false,false,false,false,⟨#[]⟩,0⟩:SThing)).fId,(b_1.fThings.getD r6.1.toNat (⟨0,0,false,false,false,false,⟨#[]⟩,0⟩:SThing)).fKind,r10.1,true,(b_1.fThings.getD r6.1.toNat (⟨0,0,false,false,false,false,⟨#[]⟩,0⟩:SThing)).fSigns,(b_1.fThings.getD r6.1.toNat (⟨0,0,false,false,false,false,⟨#[]⟩,0⟩:SThing)).fWraps,(b_1.fThings.getD r6.1.toNat (⟨0,0,false,false,false,false,⟨#[]⟩,0⟩:SThing)).fValue,(w64 ((b_1.fThings.getD r6.1.toNat (⟨0,0,false,false,false,false,⟨#[]⟩,0⟩:SThing)).fNext+r11.1))⟩⟩,⟨(),r11.2.fI,r11.2.fH⟩)
     else
     some (⟨r0.1,⟨#[]⟩,0,⟨(b_1.fThings.getD r6.1.toNat (⟨0,0,false,false,false,false,⟨#[]⟩,0⟩:SThing)).fId,(b_1.fThings.getD r6.1.toNat (⟨0,0,false,false,false,false,⟨#[]⟩,0⟩:SThing)).fKind,r10.1,true,(b_1.fThings.getD r6.1.toNat (⟨0,0,false,false,false,false,⟨#[]⟩,0⟩:SThing)).fSigns,(b_1.fThings.getD r6.1.toNat (⟨0,0,false,false,false,false,⟨#[]⟩,0⟩:SThing)).fWraps,(b_1.fThings.getD r6.1.toNat (⟨0,0,false,false,false,false,⟨#[]⟩,0⟩:SThing)).fValue,(b_1.fThings.getD r6.1.toNat (⟨0,0,false,false,false,false,⟨#[]⟩,0⟩:SThing)).fNext⟩⟩,⟨(),r10.2.fI,r10.2.fH⟩)
    else
     some (⟨r0.1,⟨#[]⟩,0,⟨(b_1.fThings.getD r6.1.toNat (⟨0,0,false,false,false,false,⟨#[]⟩,0⟩:SThing)).fId,(b_1.fThings.getD r6.1.toNat (⟨0,0,false,false,false,false,⟨#[]⟩,0⟩:SThing)).fKind,r10.1,true,(b_1.fThings.getD r6.1.toNat (⟨0,0,false,false,false,false,⟨#[]⟩,0⟩:SThing)).fSigns,(b_1.fThings.getD r6.1.toNat (⟨0,0,false,false,false,false,⟨#[]⟩,0⟩:SThing)).fWraps,(b_1.fThings.getD r6.1.toNat (⟨0,0,false,false,false,false,⟨#[]⟩,0⟩:SThing)).fValue,(b_1.fThings.getD r6.1.toNat (⟨0,0,false,false,false,false,⟨#[]⟩,0⟩:SThing)).fNext⟩⟩,⟨(),r10.2.fI,r10.2.fH⟩)
    else
    (z5 ⟨(),r10.2.fI,r10.2.fH⟩ 2).bind fun r12=>
    bif ((b_1.fThings.getD r6.1.toNat (⟨0,0,false,false,false,false,⟨#[]⟩,0⟩:SThing)).fKind == 2) then
     bif (decide ((b_1.fThings.getD r6.1.toNat (⟨0,0,false,false,false,false,⟨#[]⟩,0⟩:SThing)).fNext<16)) then
     (z3 ⟨(),r12.2.fI,r12.2.fH⟩ 2).bind fun r13=>
     some (⟨r0.1,⟨#[]⟩,0,⟨(b_1.fThings.getD r6.1.toNat (⟨0,0,false,false,false,false,⟨#[]⟩,0⟩:SThing)).fId,(b_1.fThings.getD r6.1.toNat (⟨0,0,false,false,false,false,⟨#[]⟩,0⟩:SThing)).fKind,r10.1,r12.1,(b_1.fThings.getD r6.1.toNat (⟨0,0,false,false,false,false,⟨#[]⟩,0⟩:SThing)).fSigns,(b_1.fThings.getD r6.1.toNat (⟨0,0,false,false,false,false,⟨#[]⟩,0⟩:SThing)).fWraps,(b_1.fThings.getD r6.1.toNat (⟨0,0,false,false,false,false,⟨#[]⟩,0⟩:SThing)).fValue,(w64 ((b_1.fThings.getD r6.1.toNat (⟨0,0,false,false,false,false,⟨#[]⟩,0⟩:SThing)).fNext+r13.1))⟩⟩,⟨(),r13.2.fI,r13.2.fH⟩)
     else
     some (⟨r0.1,⟨#[]⟩,0,⟨(b_1.fThings.getD r6.1.toNat (⟨0,0,false,false,false,false,⟨#[]⟩,0⟩:SThing)).fId,(b_1.fThings.getD r6.1.toNat (⟨0,0,false,false,false,false,⟨#[]⟩,0⟩:SThing)).fKind,r10.1,r12.1,(b_1.fThings.getD r6.1.toNat (⟨0,0,false,false,false,false,⟨#[]⟩,0⟩:SThing)).fSigns,(b_1.fThings.getD r6.1.toNat (⟨0,0,false,false,false,false,⟨#[]⟩,0⟩:SThing)).fWraps,(b_1.fThings.getD r6.1.toNat (⟨0,0,false,false,false,false,⟨#[]⟩,0⟩:SThing)).fValue,(b_1.fThings.getD r6.1.toNat (⟨0,0,false,false,false,false,⟨#[]⟩,0⟩:SThing)).fNext⟩⟩,⟨(),r12.2.fI,r12.2.fH⟩)
    else
     some (⟨r0.1,⟨#[]⟩,0,⟨(b_1.fThings.getD r6.1.toNat (⟨0,0,false,false,false,false,⟨#[]⟩,0⟩:SThing)).fId,(b_1.fThings.getD r6.1.toNat (⟨0,0,false,false,false,false,⟨#[]⟩,0⟩:SThing)).fKind,r10.1,r12.1,(b_1.fThings.getD r6.1.toNat (⟨0,0,false,false,false,false,⟨#[]⟩,0⟩:SThing)).fSigns,(b_1.fThings.getD r6.1.toNat (⟨0,0,false,false,false,false,⟨#[]⟩,0⟩:SThing)).fWraps,(b_1.fThings.getD r6.1.toNat (⟨0,0,false,false,false,false,⟨#[]⟩,0⟩:SThing)).fValue,(b_1.fThings.getD r6.1.toNat (⟨0,0,false,false,false,false,⟨#[]⟩,0⟩:SThing)).fNext⟩⟩,⟨(),r12.2.fI,r12.2.fH⟩)
   else none
   else
   some (⟨r0.1,⟨#[]⟩,0,⟨(w64 (b_1.fLast+1)),r4.1.fKind,r4.1.fHidden,r4.1.fFixed,r4.1.fSigns,r4.1.fWraps,r4.1.fValue,r4.1.fNext⟩⟩,⟨(),r5.2.fI,r5.2.fH⟩)
  else
   some (⟨r0.1,⟨#[]⟩,0,⟨(w64 (b_1.fLast+1)),r4.1.fKind,r4.1.fHidden,r4.1.fFixed,r4.1.fSigns,r4.1.fWraps,r4.1.fValue,r4.1.fNext⟩⟩,⟨(),r4.2.fI,r4.2.fH⟩)
  else
  bif (r0.1 == 4) then
   (z3 ⟨(),r0.2.fI,r0.2.fH⟩ 6).bind fun r14=>
   bif (decide ((b_1.fThings.length:Int) > 0)) then
   (z3 ⟨(),r14.2.fI,r14.2.fH⟩ (b_1.fThings.length:Int)).bind fun r15=>
   bif ((decide (0≤r15.1)) && (decide (r15.1<(b_1.fThings.length:Int)))) then
   some (⟨r0.1,⟨#[]⟩,(b_1.fThings.getD r15.1.toNat (⟨0,0,false,false,false,false,⟨#[]⟩,0⟩:SThing)).fId,⟨0,0,false,false,false,false,⟨#[]⟩,0⟩⟩,⟨(),r15.2.fI,r15.2.fH⟩)
   else none
   else
   some (⟨r0.1,⟨#[]⟩,(w64 (1+r14.1)),⟨0,0,false,false,false,false,⟨#[]⟩,0⟩⟩,⟨(),r14.2.fI,r14.2.fH⟩)
  else
   some (⟨r0.1,⟨#[]⟩,0,⟨0,0,false,false,false,false,⟨#[]⟩,0⟩⟩,⟨(),r0.2.fI,r0.2.fH⟩)
noncomputable def spec_l21Rec:Vk:=E_spec_l21Rec spec_l01PickInt spec_l01Pick spec_DigestOf spec_l01Below spec_l19Thing spec_l01Once
theorem CAB:Tells ctx PP 52 cv25 cv26 (fun a=>spec_l21Rec a.1 a.2):=fn_ok0 (hc WAA (hc Az (hc Ub (hc Fa (hc AAB (hc Dz hl_nil)))))) Tryz.func52 ((fun z0 z1 z2 z3 z4 z5 a=>by kernel_rfl:∀ z0 z1 z2 z3 z4 z5,EntryIs0 ctx PP 52 [0] [(90,XAA z0),(91,Bz z1),(42,VZ z2),(32,LZ z3),(92,BAB z4),(93,Ez z5)] cv25 cv26 fun a=>E_spec_l21Rec z0 z1 z2 z3 z4 z5 a.1 a.2) spec_l01PickInt spec_l01Pick spec_DigestOf spec_l01Below spec_l19Thing spec_l01Once)
noncomputable def Gz {γ:Type} (F:Vk):Hd ctx γ:=hdl cv25.dec (fun a=>F a.1 a.2) cv26.enc
abbrev Xk:=SBook→Option Bool
inductive Ue where
 | c0 (i_3:Int) (b_1:SBook)
noncomputable def Hz:Ue→LI
 | .c0 i_3 b_1=>(tdo Tryz.f86 464,[(1,[.one (.ptr 64 0)]),(3,[.one (.int .i64 i_3)])],[(64,.var [.str b_1.fWord,.int .i64 b_1.fTries,.rsl 30 b_1.fThings,.int .i64 b_1.fLast,.str b_1.fChain,.int .i64 b_1.fCount])])
noncomputable def E_spec_BookOk (z0:NY) (z1:Zd) (k:Ue→Option Bool) (b_0:SBook):Option Bool:=
 bif ((b_0.fWord.size:Int) != 32) then
 some false
 else
 bif ((b_0.fChain.size:Int) != 32) then
  some false
 else
  (z0 b_0.fTries 0 3).bind fun r0=>
  bif (!r0) then
  some false
  else
  bif (decide ((b_0.fThings.length:Int) > 8)) then
   some false
  else
   (z0 b_0.fLast 0 1000).bind fun r1=>
   bif (!r1) then
   some false
   else
   (z0 b_0.fCount 0 10000).bind fun r2=>
   bif (!r2) then
    some false
   else
    k (.c0 0 b_0)
noncomputable def B_spec_BookOk (z0:NY) (z1:Zd) (k:Ue→Option Bool):Ue→Option Bool
 | .c0 i_3 b_1=>
 bif (decide (i_3<(b_1.fThings.length:Int))) then
  bif ((decide (0≤i_3)) && (decide (i_3<(b_1.fThings.length:Int)))) then
  (z1 (b_1.fThings.getD i_3.toNat (⟨0,0,false,false,false,false,⟨#[]⟩,0⟩:SThing))).bind fun r0=>
  bif (!r0) then
  some false
  else
  bif ((decide (0≤i_3)) && (decide (i_3<(b_1.fThings.length:Int)))) then
  bif (decide ((b_1.fThings.getD i_3.toNat (⟨0,0,false,false,false,false,⟨#[]⟩,0⟩:SThing)).fId > b_1.fLast)) then
   some false
  else
   bif (decide (i_3 > 0)) then
   bif ((decide (0≤(w64 (i_3 - 1)))) && (decide ((w64 (i_3 - 1))<(b_1.fThings.length:Int)))) then
   bif ((decide (0≤i_3)) && (decide (i_3<(b_1.fThings.length:Int)))) then
   bif (decide ((b_1.fThings.getD (w64 (i_3 - 1)).toNat (⟨0,0,false,false,false,false,⟨#[]⟩,0⟩:SThing)).fId≥(b_1.fThings.getD i_3.toNat (⟨0,0,false,false,false,false,⟨#[]⟩,0⟩:SThing)).fId)) then
    some false
   else
    k (.c0 (w64 (i_3+1)) b_1)
   else none
   else none
   else
   k (.c0 (w64 (i_3+1)) b_1)
  else none
  else none
 else
  some true
noncomputable def L_spec_BookOk:Nat→Ue→Option Bool
 | 0,_=>none
 | m+1,s=>B_spec_BookOk spec_l01In spec_ThingOk (L_spec_BookOk m) s
noncomputable def spec_BookOk:Xk:=E_spec_BookOk spec_l01In spec_ThingOk (L_spec_BookOk gas)
theorem DAB:Tells ctx PP 86 cv32 cv1 (fun a=>spec_BookOk a):=
 have b:∀ z0 z1,CutIs ctx PP 86 Tryz.f86 [] [(24,TY z0),(94,Ap z1)] cv1 Hz (B_spec_BookOk z0 z1):=fun z0 z1 _ s=>by cases s <;> kernel_rfl
 have e:∀ z0 z1,EntryIs ctx PP 86 [] [(24,TY z0),(94,Ap z1)] cv32 cv1 Hz (fun k a=>E_spec_BookOk z0 z1 k a):=fun z0 z1 _ a=>by kernel_rfl
 fn_ok (hc CZ (hc Vx hl_nil)) Tryz.func86 (fun s s' h=>by cases s;cases s';(repeat cases ‹SBook›);cases h;rfl) (fun _=>rfl) (fun _ _=>rfl) (b spec_l01In spec_ThingOk) (e spec_l01In spec_ThingOk) gas
noncomputable def Iz {γ:Type} (F:Xk):Hd ctx γ:=hdl cv32.dec (fun a=>F a) cv1.enc
abbrev Vb:=SBook→Option SBook
noncomputable def E_spec_l21Copy (b_0:SBook):Option SBook:=
 bif (decide (((0+b_0.fThings.length)*48)≤140737488355328)) then
 some ⟨b_0.fWord,b_0.fTries,([]++b_0.fThings),b_0.fLast,b_0.fChain,b_0.fCount⟩
 else none
noncomputable def spec_l21Copy:Vb:=E_spec_l21Copy
theorem Jz:Tells ctx PP 47 cv32 cv16 (fun a=>spec_l21Copy a):=fn_ok0 hl_nil Tryz.func47 (fun a=>by kernel_rfl:EntryIs0 ctx PP 47 [] [] cv32 cv16 fun a=>E_spec_l21Copy a)
noncomputable def Yk {γ:Type} (F:Vb):Hd ctx γ:=hdl cv32.dec (fun a=>F a) cv16.enc
abbrev Zk:=SBook→Int→Option (SThing×Bool)
inductive Ve where
 | c0 (id_1:Int) (i_6:Int) (b_2:SBook) (v_4:SThing)
noncomputable def Kz:Ve→LI
 | .c0 id_1 i_6 b_2 v_4=>(tdo Tryz.f87 208,[(1,[.one (.int .i64 id_1)]),(2,[.one (.ptr 128 0)]),(4,[.one (.ptr 256 0)]),(6,[.one (.int .i64 i_6)])],[(128,.var [.str b_2.fWord,.int .i64 b_2.fTries,.rsl 30 b_2.fThings,.int .i64 b_2.fLast,.str b_2.fChain,.int .i64 b_2.fCount]),(256,.var [.int .i64 v_4.fId,.int .i64 v_4.fKind,.bool v_4.fHidden,.bool v_4.fFixed,.bool v_4.fSigns,.bool v_4.fWraps,.str v_4.fValue,.int .i64 v_4.fNext])])
noncomputable def Nz (k:Ve→Option (SThing×Bool)) (b_0:SBook) (id_1:Int):Option (SThing×Bool):=
 k (.c0 id_1 0 b_0 ⟨0,0,false,false,false,false,⟨#[]⟩,0⟩)
noncomputable def B_spec_ThingOf (k:Ve→Option (SThing×Bool)):Ve→Option (SThing×Bool)
 | .c0 id_1 i_6 b_2 v_4=>
 bif (decide (i_6<(b_2.fThings.length:Int))) then
  bif ((decide (0≤i_6)) && (decide (i_6<(b_2.fThings.length:Int)))) then
  bif ((b_2.fThings.getD i_6.toNat (⟨0,0,false,false,false,false,⟨#[]⟩,0⟩:SThing)).fId == id_1) then
  bif ((decide (0≤i_6)) && (decide (i_6<(b_2.fThings.length:Int)))) then
  some ((b_2.fThings.getD i_6.toNat (⟨0,0,false,false,false,false,⟨#[]⟩,0⟩:SThing)),true)
  else none
  else
  k (.c0 id_1 (w64 (i_6+1)) b_2 v_4)
  else none
 else
  some (⟨0,0,false,false,false,false,⟨#[]⟩,0⟩,false)
noncomputable def L_spec_ThingOf:Nat→Ve→Option (SThing×Bool)
 | 0,_=>none
 | m+1,s=>B_spec_ThingOf (L_spec_ThingOf m) s
noncomputable def spec_ThingOf:Zk:=Nz (L_spec_ThingOf gas)
theorem EAB:Tells ctx PP 87 cv33 cv34 (fun a=>spec_ThingOf a.1 a.2):=
 have b:CutIs ctx PP 87 Tryz.f87 [] [] cv34 Kz (B_spec_ThingOf):=fun _ s=>by cases s <;> kernel_rfl
 have e:EntryIs ctx PP 87 [] [] cv33 cv34 Kz (fun k a=>Nz k a.1 a.2):=fun _ a=>by kernel_rfl
 fn_ok hl_nil Tryz.func87 (fun s s' h=>by cases s;cases s';(repeat cases ‹SBook›);(repeat cases ‹SThing›);cases h;rfl) (fun _=>rfl) (fun _ _=>rfl) b e gas
noncomputable def Oz {γ:Type} (F:Zk):Hd ctx γ:=hdl cv33.dec (fun a=>F a.1 a.2) cv34.enc
abbrev Bl:=SThing→SThing→Option Bool
noncomputable def E_spec_l21Grown (a_0:SThing) (b_1:SThing):Option Bool:=
 bif (a_0.fKind == b_1.fKind) then
 bif ((ByteArray.toList a_0.fValue) == (ByteArray.toList b_1.fValue)) then
  bif (a_0.fSigns == b_1.fSigns) then
  bif (a_0.fWraps == b_1.fWraps) then
   bif (decide (a_0.fNext≤b_1.fNext)) then
   bif b_1.fHidden then
    bif b_1.fFixed then
    some true
    else
    some (!a_0.fFixed)
   else
    bif (!a_0.fHidden) then
    bif b_1.fFixed then
     some true
    else
     some (!a_0.fFixed)
    else
    some false
   else
   some false
  else
   some false
  else
  some false
 else
  some false
 else
 some false
noncomputable def spec_l21Grown:Bl:=E_spec_l21Grown
theorem FAB:Tells ctx PP 88 cv35 cv1 (fun a=>spec_l21Grown a.1 a.2):=fn_ok0 hl_nil Tryz.func88 (fun a=>by kernel_rfl:EntryIs0 ctx PP 88 [] [] cv35 cv1 fun a=>E_spec_l21Grown a.1 a.2)
noncomputable def Pz {γ:Type} (F:Bl):Hd ctx γ:=hdl cv35.dec (fun a=>F a.1 a.2) cv1.enc
abbrev Dl:=(List SThing)→SThing→Option (List SThing)
inductive Xe where
 | c0 (list_0:(List SThing)) (i_6:Int) (x_3:SThing) (out_5:(List SThing))
 | c1 (list_0:(List SThing)) (i_7:Int) (x_3:SThing) (out_5:(List SThing))
noncomputable def Qz:Xe→LI
 | .c0 list_0 i_6 x_3 out_5=>(tdo Tryz.f89 464,[(0,[.one (.rsl 30 list_0)]),(3,[.one (.ptr 192 0)]),(5,[.one (.own 368)]),(6,[.one (.int .i64 i_6)])],[(192,.var [.int .i64 x_3.fId,.int .i64 x_3.fKind,.bool x_3.fHidden,.bool x_3.fFixed,.bool x_3.fSigns,.bool x_3.fWraps,.str x_3.fValue,.int .i64 x_3.fNext]),(368,.sl 30 out_5)])
 | .c1 list_0 i_7 x_3 out_5=>(tdo Tryz.f89 2000,[(0,[.one (.rsl 30 list_0)]),(3,[.one (.ptr 192 0)]),(5,[.one (.own 368)]),(7,[.one (.int .i64 i_7)])],[(192,.var [.int .i64 x_3.fId,.int .i64 x_3.fKind,.bool x_3.fHidden,.bool x_3.fFixed,.bool x_3.fSigns,.bool x_3.fWraps,.str x_3.fValue,.int .i64 x_3.fNext]),(368,.sl 30 out_5)])
noncomputable def E_spec_l21Put (k:Xe→Option (List SThing)) (list_0:(List SThing)) (x_1:SThing):Option (List SThing):=
 k (.c0 list_0 0 x_1 [])
noncomputable def B_spec_l21Put (k:Xe→Option (List SThing)):Xe→Option (List SThing)
 | .c0 list_0 i_6 x_3 out_5=>
 bif (decide (i_6<(list_0.length:Int))) then
  bif ((decide (0≤i_6)) && (decide (i_6<(list_0.length:Int)))) then
  bif (decide ((list_0.getD i_6.toNat (⟨0,0,false,false,false,false,⟨#[]⟩,0⟩:SThing)).fId<x_3.fId)) then
  bif ((decide (0≤i_6)) && (decide (i_6<(list_0.length:Int)))) then
  bif (decide (((out_5.length+1)*48)≤140737488355328)) then
  k (.c0 list_0 (w64 (i_6+1)) x_3 (out_5++[(list_0.getD i_6.toNat (⟨0,0,false,false,false,false,⟨#[]⟩,0⟩:SThing))]))
  else none
  else none
  else
  k (.c0 list_0 (w64 (i_6+1)) x_3 out_5)
  else none
 else
  bif (decide (((out_5.length+1)*48)≤140737488355328)) then
  k (.c1 list_0 0 x_3 (out_5++[x_3]))
  else none
 | .c1 list_0 i_7 x_3 out_5=>
 bif (decide (i_7<(list_0.length:Int))) then
  bif ((decide (0≤i_7)) && (decide (i_7<(list_0.length:Int)))) then
  bif (decide ((list_0.getD i_7.toNat (⟨0,0,false,false,false,false,⟨#[]⟩,0⟩:SThing)).fId > x_3.fId)) then
  bif ((decide (0≤i_7)) && (decide (i_7<(list_0.length:Int)))) then
  bif (decide (((out_5.length+1)*48)≤140737488355328)) then
  k (.c1 list_0 (w64 (i_7+1)) x_3 (out_5++[(list_0.getD i_7.toNat (⟨0,0,false,false,false,false,⟨#[]⟩,0⟩:SThing))]))
  else none
  else none
  else
  k (.c1 list_0 (w64 (i_7+1)) x_3 out_5)
  else none
 else
  some out_5
noncomputable def L_spec_l21Put:Nat→Xe→Option (List SThing)
 | 0,_=>none
 | m+1,s=>B_spec_l21Put (L_spec_l21Put m) s
noncomputable def spec_l21Put:Dl:=E_spec_l21Put (L_spec_l21Put gas)
theorem GAB:Tells ctx PP 89 cv36 cv37 (fun a=>spec_l21Put a.1 a.2):=
 have b:CutIs ctx PP 89 Tryz.f89 [] [] cv37 Qz (B_spec_l21Put):=fun _ s=>by cases s <;> kernel_rfl
 have e:EntryIs ctx PP 89 [] [] cv36 cv37 Qz (fun k a=>E_spec_l21Put k a.1 a.2):=fun _ a=>by kernel_rfl
 fn_ok hl_nil Tryz.func89 (fun s s' h=>by cases s <;> cases s' <;> first | ((repeat cases ‹SThing›);cases h;done) | ((repeat cases ‹SThing›);cases h;rfl) | exact (rg_ne h (by kernel_rfl)).elim) (fun _=>rfl) (fun _ _=>rfl) b e gas
noncomputable def Rz {γ:Type} (F:Dl):Hd ctx γ:=hdl cv36.dec (fun a=>F a.1 a.2) cv37.enc
abbrev Xb:=SBook→SRec→Option (SBook×Bool)
inductive Ye where
 | c0 (y_6:ByteArray) (v_14:Int) (A_2:SBook) (r_3:SRec) (r_4c0:ByteArray) (r_4c1:Int) (r_4c3:Int) (r_4c4:ByteArray) (r_4c5:Int) (v_8c0:ByteArray) (v_8c1:Int) (v_8c3:Int) (v_8c4:ByteArray) (v_8c5:Int) (v_13:(List SThing)) (r_4r2:(List SThing)) (v_8r2:(List SThing))
noncomputable def Sz:Ye→LI
 | .c0 y_6 v_14 A_2 r_3 r_4c0 r_4c1 r_4c3 r_4c4 r_4c5 v_8c0 v_8c1 v_8c3 v_8c4 v_8c5 v_13 r_4r2 v_8r2=>(tdo Tryz.f48 32898512,[(2,[.one (.ptr 128 0)]),(3,[.one (.ptr 192 0)]),(4,[.one (.ptr 256 0)]),(6,[.one (.str y_6)]),(8,[.one (.ptr 512 0)]),(13,[.one (.own 880)]),(14,[.one (.int .i64 v_14)])],[(128,.var [.str A_2.fWord,.int .i64 A_2.fTries,.rsl 30 A_2.fThings,.int .i64 A_2.fLast,.str A_2.fChain,.int .i64 A_2.fCount]),(192,.var [.int .i64 r_3.fKind,.str r_3.fText,.int .i64 r_3.fNum,.int .i64 r_3.fThing.fId,.int .i64 r_3.fThing.fKind,.bool r_3.fThing.fHidden,.bool r_3.fThing.fFixed,.bool r_3.fThing.fSigns,.bool r_3.fThing.fWraps,.str r_3.fThing.fValue,.int .i64 r_3.fThing.fNext]),(256,.var [.str r_4c0,.int .i64 r_4c1,.own 1016386,.int .i64 r_4c3,.str r_4c4,.int .i64 r_4c5]),(512,.var [.str v_8c0,.int .i64 v_8c1,.own 1032770,.int .i64 v_8c3,.str v_8c4,.int .i64 v_8c5]),(880,.sl 30 v_13),(1016386,.sl 30 r_4r2),(1032770,.sl 30 v_8r2)])
noncomputable def E_spec_Enter (z0:Ib) (z1:Xk) (z2:Vb) (z3:Zk) (z4:Bl) (z5:Dl) (z6:GZ) (k:Ye→Option (SBook×Bool)) (t_0:SBook) (o_1:SRec):Option (SBook×Bool):=
 (z0 o_1).bind fun r0=>
 (z1 t_0).bind fun r1=>
 bif (!r1) then
 some (⟨⟨#[]⟩,0,[],0,⟨#[]⟩,0⟩,false)
 else
 bif (!r0.2) then
  some (⟨⟨#[]⟩,0,[],0,⟨#[]⟩,0⟩,false)
 else
  bif (t_0.fCount == 10000) then
  some (⟨⟨#[]⟩,0,[],0,⟨#[]⟩,0⟩,false)
  else
  (z2 t_0).bind fun r2=>
  bif (o_1.fKind == 1) then
   bif (decide ((t_0.fChain.size+r0.1.size)≤9223372036854775807)) then
   (z6 (t_0.fChain++r0.1)).bind fun r3=>
   (z1 ⟨o_1.fText,0,r2.fThings,r2.fLast,r3,(w64 (t_0.fCount+1))⟩).bind fun r4=>
   bif (!r4) then
   some (⟨⟨#[]⟩,0,[],0,⟨#[]⟩,0⟩,false)
   else
   some (⟨o_1.fText,0,r2.fThings,r2.fLast,r3,(w64 (t_0.fCount+1))⟩,true)
   else none
  else
   bif (o_1.fKind == 2) then
   bif (decide ((t_0.fChain.size+r0.1.size)≤9223372036854775807)) then
   (z6 (t_0.fChain++r0.1)).bind fun r5=>
   (z1 ⟨r2.fWord,o_1.fNum,r2.fThings,r2.fLast,r5,(w64 (t_0.fCount+1))⟩).bind fun r6=>
   bif (!r6) then
    some (⟨⟨#[]⟩,0,[],0,⟨#[]⟩,0⟩,false)
   else
    some (⟨r2.fWord,o_1.fNum,r2.fThings,r2.fLast,r5,(w64 (t_0.fCount+1))⟩,true)
   else none
   else
   bif (o_1.fKind == 3) then
    (z3 t_0 o_1.fThing.fId).bind fun r7=>
    bif r7.2 then
    (z4 r7.1 o_1.fThing).bind fun r8=>
    bif (!r8) then
     some (⟨⟨#[]⟩,0,[],0,⟨#[]⟩,0⟩,false)
    else
     bif (!r7.2) then
     bif (o_1.fThing.fId != (w64 (t_0.fLast+1))) then
      some (⟨⟨#[]⟩,0,[],0,⟨#[]⟩,0⟩,false)
     else
      bif ((t_0.fThings.length:Int) == 8) then
      some (⟨⟨#[]⟩,0,[],0,⟨#[]⟩,0⟩,false)
      else
      bif (!r7.2) then
       (z5 t_0.fThings o_1.fThing).bind fun r9=>
       bif (decide ((t_0.fChain.size+r0.1.size)≤9223372036854775807)) then
       (z6 (t_0.fChain++r0.1)).bind fun r10=>
       (z1 ⟨r2.fWord,r2.fTries,r9,o_1.fThing.fId,r10,(w64 (t_0.fCount+1))⟩).bind fun r11=>
       bif (!r11) then
       some (⟨⟨#[]⟩,0,[],0,⟨#[]⟩,0⟩,false)
       else
       some (⟨r2.fWord,r2.fTries,r9,o_1.fThing.fId,r10,(w64 (t_0.fCount+1))⟩,true)
       else none
      else
       (z5 t_0.fThings o_1.fThing).bind fun r12=>
       bif (decide ((t_0.fChain.size+r0.1.size)≤9223372036854775807)) then
       (z6 (t_0.fChain++r0.1)).bind fun r13=>
       (z1 ⟨r2.fWord,r2.fTries,r12,r2.fLast,r13,(w64 (t_0.fCount+1))⟩).bind fun r14=>
       bif (!r14) then
       some (⟨⟨#[]⟩,0,[],0,⟨#[]⟩,0⟩,false)
       else
       some (⟨r2.fWord,r2.fTries,r12,r2.fLast,r13,(w64 (t_0.fCount+1))⟩,true)
       else none
     else
     bif (!r7.2) then
      (z5 t_0.fThings o_1.fThing).bind fun r15=>
      bif (decide ((t_0.fChain.size+r0.1.size)≤9223372036854775807)) then
      (z6 (t_0.fChain++r0.1)).bind fun r16=>
      (z1 ⟨r2.fWord,r2.fTries,r15,o_1.fThing.fId,r16,(w64 (t_0.fCount+1))⟩).bind fun r17=>
      bif (!r17) then
      some (⟨⟨#[]⟩,0,[],0,⟨#[]⟩,0⟩,false)
      else
      some (⟨r2.fWord,r2.fTries,r15,o_1.fThing.fId,r16,(w64 (t_0.fCount+1))⟩,true)
      else none
     else
      (z5 t_0.fThings o_1.fThing).bind fun r18=>
      bif (decide ((t_0.fChain.size+r0.1.size)≤9223372036854775807)) then
      (z6 (t_0.fChain++r0.1)).bind fun r19=>
      (z1 ⟨r2.fWord,r2.fTries,r18,r2.fLast,r19,(w64 (t_0.fCount+1))⟩).bind fun r20=>
      bif (!r20) then
      some (⟨⟨#[]⟩,0,[],0,⟨#[]⟩,0⟩,false)
      else
      some (⟨r2.fWord,r2.fTries,r18,r2.fLast,r19,(w64 (t_0.fCount+1))⟩,true)
      else none
    else
    bif (!r7.2) then
     bif (o_1.fThing.fId != (w64 (t_0.fLast+1))) then
     some (⟨⟨#[]⟩,0,[],0,⟨#[]⟩,0⟩,false)
     else
     bif ((t_0.fThings.length:Int) == 8) then
      some (⟨⟨#[]⟩,0,[],0,⟨#[]⟩,0⟩,false)
     else
      bif (!r7.2) then
      (z5 t_0.fThings o_1.fThing).bind fun r21=>
      bif (decide ((t_0.fChain.size+r0.1.size)≤9223372036854775807)) then
      (z6 (t_0.fChain++r0.1)).bind fun r22=>
      (z1 ⟨r2.fWord,r2.fTries,r21,o_1.fThing.fId,r22,(w64 (t_0.fCount+1))⟩).bind fun r23=>
      bif (!r23) then
       some (⟨⟨#[]⟩,0,[],0,⟨#[]⟩,0⟩,false)
      else
       some (⟨r2.fWord,r2.fTries,r21,o_1.fThing.fId,r22,(w64 (t_0.fCount+1))⟩,true)
      else none
      else
      (z5 t_0.fThings o_1.fThing).bind fun r24=>
      bif (decide ((t_0.fChain.size+r0.1.size)≤9223372036854775807)) then
      (z6 (t_0.fChain++r0.1)).bind fun r25=>
      (z1 ⟨r2.fWord,r2.fTries,r24,r2.fLast,r25,(w64 (t_0.fCount+1))⟩).bind fun r26=>
      bif (!r26) then
       some (⟨⟨#[]⟩,0,[],0,⟨#[]⟩,0⟩,false)
      else
       some (⟨r2.fWord,r2.fTries,r24,r2.fLast,r25,(w64 (t_0.fCount+1))⟩,true)
      else none
    else
     bif (!r7.2) then
     (z5 t_0.fThings o_1.fThing).bind fun r27=>
     bif (decide ((t_0.fChain.size+r0.1.size)≤9223372036854775807)) then
     (z6 (t_0.fChain++r0.1)).bind fun r28=>
     (z1 ⟨r2.fWord,r2.fTries,r27,o_1.fThing.fId,r28,(w64 (t_0.fCount+1))⟩).bind fun r29=>
     bif (!r29) then
      some (⟨⟨#[]⟩,0,[],0,⟨#[]⟩,0⟩,false)
     else
      some (⟨r2.fWord,r2.fTries,r27,o_1.fThing.fId,r28,(w64 (t_0.fCount+1))⟩,true)
     else none
     else
     (z5 t_0.fThings o_1.fThing).bind fun r30=>
     bif (decide ((t_0.fChain.size+r0.1.size)≤9223372036854775807)) then
     (z6 (t_0.fChain++r0.1)).bind fun r31=>
     (z1 ⟨r2.fWord,r2.fTries,r30,r2.fLast,r31,(w64 (t_0.fCount+1))⟩).bind fun r32=>
     bif (!r32) then
      some (⟨⟨#[]⟩,0,[],0,⟨#[]⟩,0⟩,false)
     else
      some (⟨r2.fWord,r2.fTries,r30,r2.fLast,r31,(w64 (t_0.fCount+1))⟩,true)
     else none
   else
    bif (o_1.fKind == 4) then
    (z3 t_0 o_1.fNum).bind fun r33=>
    bif (!r33.2) then
     some (⟨⟨#[]⟩,0,[],0,⟨#[]⟩,0⟩,false)
    else
     k (.c0 r0.1 0 t_0 o_1 ⟨#[]⟩ 0 0 ⟨#[]⟩ 0 r2.fWord r2.fTries r2.fLast r2.fChain r2.fCount [] [] r2.fThings)
    else
    bif (decide ((t_0.fChain.size+r0.1.size)≤9223372036854775807)) then
    (z6 (t_0.fChain++r0.1)).bind fun r34=>
    (z1 ⟨r2.fWord,r2.fTries,r2.fThings,r2.fLast,r34,(w64 (t_0.fCount+1))⟩).bind fun r35=>
    bif (!r35) then
     some (⟨⟨#[]⟩,0,[],0,⟨#[]⟩,0⟩,false)
    else
     some (⟨r2.fWord,r2.fTries,r2.fThings,r2.fLast,r34,(w64 (t_0.fCount+1))⟩,true)
    else none
noncomputable def B_spec_Enter (z0:Ib) (z1:Xk) (z2:Vb) (z3:Zk) (z4:Bl) (z5:Dl) (z6:GZ) (k:Ye→Option (SBook×Bool)):Ye→Option (SBook×Bool)
 | .c0 y_6 v_14 A_2 r_3 r_4c0 r_4c1 r_4c3 r_4c4 r_4c5 v_8c0 v_8c1 v_8c3 v_8c4 v_8c5 v_13 r_4r2 v_8r2=>
 bif (decide (v_14<(A_2.fThings.length:Int))) then
  bif ((decide (0≤v_14)) && (decide (v_14<(A_2.fThings.length:Int)))) then
  bif ((A_2.fThings.getD v_14.toNat (⟨0,0,false,false,false,false,⟨#[]⟩,0⟩:SThing)).fId != r_3.fNum) then
  bif ((decide (0≤v_14)) && (decide (v_14<(A_2.fThings.length:Int)))) then
  bif (decide (((v_13.length+1)*48)≤140737488355328)) then
  k (.c0 y_6 (w64 (v_14+1)) A_2 r_3 r_4c0 r_4c1 r_4c3 r_4c4 r_4c5 v_8c0 v_8c1 v_8c3 v_8c4 v_8c5 (v_13++[(A_2.fThings.getD v_14.toNat (⟨0,0,false,false,false,false,⟨#[]⟩,0⟩:SThing))]) r_4r2 v_8r2)
  else none
  else none
  else
  k (.c0 y_6 (w64 (v_14+1)) A_2 r_3 r_4c0 r_4c1 r_4c3 r_4c4 r_4c5 v_8c0 v_8c1 v_8c3 v_8c4 v_8c5 v_13 r_4r2 v_8r2)
  else none
 else
  bif (decide ((A_2.fChain.size+y_6.size)≤9223372036854775807)) then
  (z6 (A_2.fChain++y_6)).bind fun r0=>
  (z1 ⟨v_8c0,v_8c1,v_13,v_8c3,r0,(w64 (A_2.fCount+1))⟩).bind fun r1=>
  bif (!r1) then
  some (⟨⟨#[]⟩,0,[],0,⟨#[]⟩,0⟩,false)
  else
  some (⟨v_8c0,v_8c1,v_13,v_8c3,r0,(w64 (A_2.fCount+1))⟩,true)
  else none
noncomputable def L_spec_Enter:Nat→Ye→Option (SBook×Bool)
 | 0,_=>none
 | m+1,s=>B_spec_Enter spec_RecText spec_BookOk spec_l21Copy spec_ThingOf spec_l21Grown spec_l21Put spec_DigestOf (L_spec_Enter m) s
noncomputable def spec_Enter:Xb:=E_spec_Enter spec_RecText spec_BookOk spec_l21Copy spec_ThingOf spec_l21Grown spec_l21Put spec_DigestOf (L_spec_Enter gas)
theorem Tz:Tells ctx PP 48 cv38 cv39 (fun a=>spec_Enter a.1 a.2):=
 have b:∀ z0 z1 z2 z3 z4 z5 z6,CutIs ctx PP 48 Tryz.f48 [] [(23,Zj z0),(86,Iz z1),(47,Yk z2),(87,Oz z3),(88,Pz z4),(89,Rz z5),(42,VZ z6)] cv39 Sz (B_spec_Enter z0 z1 z2 z3 z4 z5 z6):=fun z0 z1 z2 z3 z4 z5 z6 _ s=>by cases s <;> kernel_rfl
 have e:∀ z0 z1 z2 z3 z4 z5 z6,EntryIs ctx PP 48 [] [(23,Zj z0),(86,Iz z1),(47,Yk z2),(87,Oz z3),(88,Pz z4),(89,Rz z5),(42,VZ z6)] cv38 cv39 Sz (fun k a=>E_spec_Enter z0 z1 z2 z3 z4 z5 z6 k a.1 a.2):=fun z0 z1 z2 z3 z4 z5 z6 _ a=>by kernel_rfl
 fn_ok (hc Ip (hc DAB (hc Jz (hc EAB (hc FAB (hc GAB (hc Ub hl_nil))))))) Tryz.func48 (fun s s' h=>by cases s;cases s';(repeat cases ‹SBook›);(repeat cases ‹SRec›);(repeat cases ‹SThing›);cases h;rfl) (fun _=>rfl) (fun _ _=>rfl) (b spec_RecText spec_BookOk spec_l21Copy spec_ThingOf spec_l21Grown spec_l21Put spec_DigestOf) (e spec_RecText spec_BookOk spec_l21Copy spec_ThingOf spec_l21Grown spec_l21Put spec_DigestOf) gas
noncomputable def Gl {γ:Type} (F:Xb):Hd ctx γ:=hdl cv38.dec (fun a=>F a.1 a.2) cv39.enc
abbrev Fq:=SL01Cur→Option ((List SRec)×SBook×SL01Cur)
inductive Ze where
 | c0 (i_6:Int) (c_0c1:Int) (c_0c2:Int) (v_3c0:ByteArray) (v_3c1:Int) (v_3c3:Int) (v_3c4:ByteArray) (v_3c5:Int) (b_4c0:ByteArray) (b_4c1:Int) (b_4c3:Int) (b_4c4:ByteArray) (b_4c5:Int) (list_5:(List SRec)) (v_3r2:(List SThing)) (b_4r2:(List SThing))
noncomputable def Uz:Ze→LI
 | .c0 i_6 c_0c1 c_0c2 v_3c0 v_3c1 v_3c3 v_3c4 v_3c5 b_4c0 b_4c1 b_4c3 b_4c4 b_4c5 list_5 v_3r2 b_4r2=>(tdo Tryz.f21 976,[(0,[.one (.ptr 0 0)]),(3,[.one (.ptr 192 0)]),(4,[.one (.ptr 256 0)]),(5,[.one (.own 368)]),(6,[.one (.int .i64 i_6)])],[(0,.var [.csl,.int .i64 c_0c1,.int .i64 c_0c2]),(192,.var [.str v_3c0,.int .i64 v_3c1,.own 1012290,.int .i64 v_3c3,.str v_3c4,.int .i64 v_3c5]),(256,.var [.str b_4c0,.int .i64 b_4c1,.own 1016386,.int .i64 b_4c3,.str b_4c4,.int .i64 b_4c5]),(368,.sl 32 list_5),(1012290,.sl 30 v_3r2),(1016386,.sl 30 b_4r2)])
noncomputable def E_spec_l21Recs (z0:Fb) (z1:AZ) (z2:Vk) (z3:Xb) (k:Ze→Option ((List SRec)×SBook×SL01Cur)) (c_0:SL01Cur):Option ((List SRec)×SBook×SL01Cur):=
 z0.bind fun r0=>
 k (.c0 0 c_0.fI c_0.fH ⟨#[]⟩ 0 0 ⟨#[]⟩ 0 r0.fWord r0.fTries r0.fLast r0.fChain r0.fCount [] [] r0.fThings)
noncomputable def B_spec_l21Recs (z0:Fb) (z1:AZ) (z2:Vk) (z3:Xb) (k:Ze→Option ((List SRec)×SBook×SL01Cur)):Ze→Option ((List SRec)×SBook×SL01Cur)
 | .c0 i_6 c_0c1 c_0c2 v_3c0 v_3c1 v_3c3 v_3c4 v_3c5 b_4c0 b_4c1 b_4c3 b_4c4 b_4c5 list_5 v_3r2 b_4r2=>
 (z1 ⟨(),c_0c1,c_0c2⟩ 12).bind fun r0=>
 bif (decide (i_6<r0.1)) then
  (z2 ⟨(),r0.2.fI,r0.2.fH⟩ ⟨b_4c0,b_4c1,b_4r2,b_4c3,b_4c4,b_4c5⟩).bind fun r1=>
  (z3 ⟨b_4c0,b_4c1,b_4r2,b_4c3,b_4c4,b_4c5⟩ r1.1).bind fun r2=>
  bif r2.2 then
  bif (decide (((list_5.length+1)*80)≤140737488355328)) then
  k (.c0 (w64 (i_6+1)) r1.2.fI r1.2.fH v_3c0 v_3c1 v_3c3 v_3c4 v_3c5 r2.1.fWord r2.1.fTries r2.1.fLast r2.1.fChain r2.1.fCount (list_5++[r1.1]) v_3r2 r2.1.fThings)
  else none
  else
  k (.c0 (w64 (i_6+1)) r1.2.fI r1.2.fH v_3c0 v_3c1 v_3c3 v_3c4 v_3c5 b_4c0 b_4c1 b_4c3 b_4c4 b_4c5 list_5 v_3r2 b_4r2)
 else
  some (list_5,(⟨b_4c0,b_4c1,b_4r2,b_4c3,b_4c4,b_4c5⟩,⟨(),r0.2.fI,r0.2.fH⟩))
noncomputable def L_spec_l21Recs:Nat→Ze→Option ((List SRec)×SBook×SL01Cur)
 | 0,_=>none
 | m+1,s=>B_spec_l21Recs spec_BookNew spec_l01Below spec_l21Rec spec_Enter (L_spec_l21Recs m) s
noncomputable def spec_l21Recs:Fq:=E_spec_l21Recs spec_BookNew spec_l01Below spec_l21Rec spec_Enter (L_spec_l21Recs gas)
theorem IAB:Tells ctx PP 21 cv17 cv40 (fun a=>spec_l21Recs a):=
 have b:∀ z0 z1 z2 z3,CutIs ctx PP 21 Tryz.f21 [0] [(15,Wj z0),(32,LZ z1),(52,Gz z2),(48,Gl z3)] cv40 Uz (B_spec_l21Recs z0 z1 z2 z3):=fun z0 z1 z2 z3 _ s=>by cases s <;> kernel_rfl
 have e:∀ z0 z1 z2 z3,EntryIs ctx PP 21 [0] [(15,Wj z0),(32,LZ z1),(52,Gz z2),(48,Gl z3)] cv17 cv40 Uz (fun k a=>E_spec_l21Recs z0 z1 z2 z3 k a):=fun z0 z1 z2 z3 _ a=>by kernel_rfl
 fn_ok (hc Dx (hc Fa (hc CAB (hc Tz hl_nil)))) Tryz.func21 (fun s s' h=>by cases s;cases s';cases h;rfl) (fun _=>rfl) (fun _ _=>rfl) (b spec_BookNew spec_l01Below spec_l21Rec spec_Enter) (e spec_BookNew spec_l01Below spec_l21Rec spec_Enter) gas
noncomputable def JAB {γ:Type} (F:Fq):Hd ctx γ:=hdl cv17.dec (fun a=>F a) cv40.enc
abbrev Qj:=Unit→Option (List SRec)
noncomputable def E_spec_DrawRecords (z0:Ad) (z1:Fq) (code_0:Unit):Option (List SRec):=
 (z0 ()).bind fun r0=>
 (z1 ⟨(),r0.fI,r0.fH⟩).bind fun r1=>
 some r1.1
noncomputable def spec_DrawRecords:Qj:=E_spec_DrawRecords spec_l01New spec_l21Recs
theorem Q9:Tells ctx PP 6 cv0 cv41 (fun a=>spec_DrawRecords a):=fn_ok0 (hc Zv (hc IAB hl_nil)) Tryz.func6 ((fun z0 z1 a=>by kernel_rfl:∀ z0 z1,EntryIs0 ctx PP 6 [] [(22,Ho z0),(21,JAB z1)] cv0 cv41 fun a=>E_spec_DrawRecords z0 z1 a) spec_l01New spec_l21Recs)
noncomputable def Rw {γ:Type} (F:Qj):Hd ctx γ:=hdl cv0.dec (fun a=>F a) cv41.enc
abbrev Gq:=ByteArray→Int→Option ByteArray
inductive Af where
 | c0 (key_0:ByteArray) (x_1:Int) (i_6:Int) (out_5:(List Int))
noncomputable def Vz:Af→LI
 | .c0 key_0 x_1 i_6 out_5=>(tdo Tryz.f123 976,[(0,[.one (.str key_0)]),(1,[.one (.int .u8 x_1)]),(5,[.one (.own 368)]),(6,[.one (.int .i64 i_6)])],[(368,.sl 5 out_5)])
noncomputable def E_spec_l06Mask (z0:GZ) (k:Af→Option ByteArray) (key_0:ByteArray) (x_1:Int):Option ByteArray:=
 bif (decide ((key_0.size:Int) > 64)) then
 (z0 key_0).bind fun r0=>
 k (.c0 r0 x_1 0 (List.replicate (64:Int).toNat (0:Int)))
 else
 k (.c0 key_0 x_1 0 (List.replicate (64:Int).toNat (0:Int)))
noncomputable def B_spec_l06Mask (z0:GZ) (k:Af→Option ByteArray):Af→Option ByteArray
 | .c0 key_0 x_1 i_6 out_5=>
 bif (decide (i_6<64)) then
  bif (decide (i_6<(key_0.size:Int))) then
  bif ((decide (0≤i_6)) && (decide (i_6<(key_0.size:Int)))) then
  bif ((decide (0≤i_6)) && (decide (i_6<(out_5.length:Int)))) then
  bif ((decide (0≤i_6)) && (decide (i_6<((out_5.set i_6.toNat (bt key_0 i_6)).length:Int)))) then
  bif ((decide (0≤i_6)) && (decide (i_6<((out_5.set i_6.toNat (bt key_0 i_6)).length:Int)))) then
  k (.c0 key_0 x_1 (w64 (i_6+1)) ((out_5.set i_6.toNat (bt key_0 i_6)).set i_6.toNat (w8 (((BitVec.toNat ((BitVec.ofInt (IntKind.bits IntKind.u8) ((out_5.set i_6.toNat (bt key_0 i_6)).getD i_6.toNat 0)) ^^^ (BitVec.ofInt (IntKind.bits IntKind.u8) x_1))):Nat):Int))))
  else none
  else none
  else none
  else none
  else
  bif ((decide (0≤i_6)) && (decide (i_6<(out_5.length:Int)))) then
  bif ((decide (0≤i_6)) && (decide (i_6<(out_5.length:Int)))) then
  k (.c0 key_0 x_1 (w64 (i_6+1)) (out_5.set i_6.toNat (w8 (((BitVec.toNat ((BitVec.ofInt (IntKind.bits IntKind.u8) (out_5.getD i_6.toNat 0)) ^^^ (BitVec.ofInt (IntKind.bits IntKind.u8) x_1))):Nat):Int))))
  else none
  else none
 else
  some (ofBytes out_5)
noncomputable def L_spec_l06Mask:Nat→Af→Option ByteArray
 | 0,_=>none
 | m+1,s=>B_spec_l06Mask spec_DigestOf (L_spec_l06Mask m) s
noncomputable def spec_l06Mask:Gq:=E_spec_l06Mask spec_DigestOf (L_spec_l06Mask gas)
theorem KAB:Tells ctx PP 123 cv42 cv6 (fun a=>spec_l06Mask a.1 a.2):=
 have b:∀ z0,CutIs ctx PP 123 Tryz.f123 [] [(42,VZ z0)] cv6 Vz (B_spec_l06Mask z0):=fun z0 _ s=>by cases s <;> kernel_rfl
 have e:∀ z0,EntryIs ctx PP 123 [] [(42,VZ z0)] cv42 cv6 Vz (fun k a=>E_spec_l06Mask z0 k a.1 a.2):=fun z0 _ a=>by kernel_rfl
 fn_ok (hc Ub hl_nil) Tryz.func123 (fun s s' h=>by cases s;cases s';cases h;rfl) (fun _=>rfl) (fun _ _=>rfl) (b spec_DigestOf) (e spec_DigestOf) gas
noncomputable def LAB {γ:Type} (F:Gq):Hd ctx γ:=hdl cv42.dec (fun a=>F a.1 a.2) cv6.enc
abbrev Bf:=ByteArray→ByteArray→Option ByteArray
noncomputable def E_spec_MacOf (z0:Gq) (z1:GZ) (key_0:ByteArray) (s_1:ByteArray):Option ByteArray:=
 (z0 key_0 92).bind fun r0=>
 (z0 key_0 54).bind fun r1=>
 bif (decide ((r1.size+s_1.size)≤9223372036854775807)) then
 (z1 (r1++s_1)).bind fun r2=>
 bif (decide ((r0.size+r2.size)≤9223372036854775807)) then
 (z1 (r0++r2)).bind fun r3=>
 some r3
 else none
 else none
noncomputable def spec_MacOf:Bf:=E_spec_MacOf spec_l06Mask spec_DigestOf
theorem Xz:Tells ctx PP 98 cv43 cv6 (fun a=>spec_MacOf a.1 a.2):=fn_ok0 (hc KAB (hc Ub hl_nil)) Tryz.func98 ((fun z0 z1 a=>by kernel_rfl:∀ z0 z1,EntryIs0 ctx PP 98 [] [(123,LAB z0),(42,VZ z1)] cv43 cv6 fun a=>E_spec_MacOf z0 z1 a.1 a.2) spec_l06Mask spec_DigestOf)
noncomputable def Hq {γ:Type} (F:Bf):Hd ctx γ:=hdl cv43.dec (fun a=>F a.1 a.2) cv6.enc
abbrev Iq:=ByteArray→Int→Int→Option (ByteArray×Bool)
inductive Df where
 | c0 (key_0:ByteArray) (num_1:Int) (n_2:Int) (i_9:Int) (out_8:(List Int))
noncomputable def Yz:Df→LI
 | .c0 key_0 num_1 n_2 i_9 out_8=>(tdo Tryz.f55 976,[(0,[.one (.str key_0)]),(1,[.one (.int .i64 num_1)]),(2,[.one (.int .i64 n_2)]),(8,[.one (.own 560)]),(9,[.one (.int .i64 i_9)])],[(560,.sl 5 out_8)])
noncomputable def E_spec_Mask (z0:NY) (z1:DZ) (z2:Ae) (z3:Bf) (k:Df→Option (ByteArray×Bool)) (key_0:ByteArray) (num_1:Int) (n_2:Int):Option (ByteArray×Bool):=
 (z0 num_1 0 1000000000).bind fun r0=>
 bif (!r0) then
 some (⟨#[]⟩,false)
 else
 (z0 n_2 0 8000).bind fun r1=>
 bif (!r1) then
  some (⟨#[]⟩,false)
 else
  k (.c0 key_0 num_1 n_2 0 [])
noncomputable def B_spec_Mask (z0:NY) (z1:DZ) (z2:Ae) (z3:Bf) (k:Df→Option (ByteArray×Bool)):Df→Option (ByteArray×Bool)
 | .c0 key_0 num_1 n_2 i_9 out_8=>
 bif (decide ((out_8.length:Int)<n_2)) then
  (z1 num_1).bind fun r0=>
  bif (decide (((⟨#[109]⟩:ByteArray).size+r0.size)≤9223372036854775807)) then
  (z2 i_9).bind fun r1=>
  bif (decide ((((⟨#[109]⟩:ByteArray)++r0).size+r1.size)≤9223372036854775807)) then
  (z3 key_0 (((⟨#[109]⟩:ByteArray)++r0)++r1)).bind fun r2=>
  bif (decide (r2.size≤9223372036854775807)) then
  bif (decide (((out_8.length+(bytesOf r2).length)*1)≤140737488355328)) then
  k (.c0 key_0 num_1 n_2 (w64 (i_9+1)) (out_8++(bytesOf r2)))
  else none
  else none
  else none
  else none
 else
  bif ((decide (0≤n_2)) && (decide (n_2≤(out_8.length:Int)))) then
  some ((ofBytes ((out_8.drop 0).take (n_2.toNat - 0))),true)
  else none
noncomputable def L_spec_Mask:Nat→Df→Option (ByteArray×Bool)
 | 0,_=>none
 | m+1,s=>B_spec_Mask spec_l01In spec_l01Var spec_l06Byte spec_MacOf (L_spec_Mask m) s
noncomputable def spec_Mask:Iq:=E_spec_Mask spec_l01In spec_l01Var spec_l06Byte spec_MacOf (L_spec_Mask gas)
theorem MAB:Tells ctx PP 55 cv44 cv30 (fun a=>spec_Mask a.1 a.2.1 a.2.2):=
 have b:∀ z0 z1 z2 z3,CutIs ctx PP 55 Tryz.f55 [] [(24,TY z0),(53,MZ z1),(96,Ep z2),(98,Hq z3)] cv30 Yz (B_spec_Mask z0 z1 z2 z3):=fun z0 z1 z2 z3 _ s=>by cases s <;> kernel_rfl
 have e:∀ z0 z1 z2 z3,EntryIs ctx PP 55 [] [(24,TY z0),(53,MZ z1),(96,Ep z2),(98,Hq z3)] cv44 cv30 Yz (fun k a=>E_spec_Mask z0 z1 z2 z3 k a.1 a.2.1 a.2.2):=fun z0 z1 z2 z3 _ a=>by kernel_rfl
 fn_ok (hc CZ (hc Qa (hc Xx (hc Xz hl_nil)))) Tryz.func55 (fun s s' h=>by cases s;cases s';cases h;rfl) (fun _=>rfl) (fun _ _=>rfl) (b spec_l01In spec_l01Var spec_l06Byte spec_MacOf) (e spec_l01In spec_l01Var spec_l06Byte spec_MacOf) gas
noncomputable def NAB {γ:Type} (F:Iq):Hd ctx γ:=hdl cv44.dec (fun a=>F a.1 a.2.1 a.2.2) cv30.enc
abbrev Jq:=ByteArray→ByteArray→Option ByteArray
inductive Ef where
 | c0 (b_1:ByteArray) (i_6:Int) (out_5:(List Int))
noncomputable def Zz:Ef→LI
 | .c0 b_1 i_6 out_5=>(tdo Tryz.f56 464,[(1,[.one (.str b_1)]),(5,[.one (.own 368)]),(6,[.one (.int .i64 i_6)])],[(368,.sl 5 out_5)])
noncomputable def E_spec_l18Xor (k:Ef→Option ByteArray) (a_0:ByteArray) (b_1:ByteArray):Option ByteArray:=
 bif (decide (a_0.size≤9223372036854775807)) then
 k (.c0 b_1 0 (bytesOf a_0))
 else none
noncomputable def B_spec_l18Xor (k:Ef→Option ByteArray):Ef→Option ByteArray
 | .c0 b_1 i_6 out_5=>
 bif (decide (i_6<(out_5.length:Int))) then
  bif ((decide (0≤i_6)) && (decide (i_6<(out_5.length:Int)))) then
  bif ((decide (0≤i_6)) && (decide (i_6<(b_1.size:Int)))) then
  bif ((decide (0≤i_6)) && (decide (i_6<(out_5.length:Int)))) then
  k (.c0 b_1 (w64 (i_6+1)) (out_5.set i_6.toNat (w8 (((BitVec.toNat ((BitVec.ofInt (IntKind.bits IntKind.u8) (out_5.getD i_6.toNat 0)) ^^^ (BitVec.ofInt (IntKind.bits IntKind.u8) (bt b_1 i_6)))):Nat):Int))))
  else none
  else none
  else none
 else
  some (ofBytes out_5)
noncomputable def L_spec_l18Xor:Nat→Ef→Option ByteArray
 | 0,_=>none
 | m+1,s=>B_spec_l18Xor (L_spec_l18Xor m) s
noncomputable def spec_l18Xor:Jq:=E_spec_l18Xor (L_spec_l18Xor gas)
theorem OAB:Tells ctx PP 56 cv43 cv6 (fun a=>spec_l18Xor a.1 a.2):=
 have b:CutIs ctx PP 56 Tryz.f56 [] [] cv6 Zz (B_spec_l18Xor):=fun _ s=>by cases s <;> kernel_rfl
 have e:EntryIs ctx PP 56 [] [] cv43 cv6 Zz (fun k a=>E_spec_l18Xor k a.1 a.2):=fun _ a=>by kernel_rfl
 fn_ok hl_nil Tryz.func56 (fun s s' h=>by cases s;cases s';cases h;rfl) (fun _=>rfl) (fun _ _=>rfl) b e gas
noncomputable def PAB {γ:Type} (F:Jq):Hd ctx γ:=hdl cv43.dec (fun a=>F a.1 a.2) cv6.enc
abbrev Kq:=ByteArray→Int→ByteArray→Option ByteArray
noncomputable def E_spec_l18Tag (z0:DZ) (z1:Bf) (key_0:ByteArray) (num_1:Int) (s_2:ByteArray):Option ByteArray:=
 (z0 num_1).bind fun r0=>
 bif (decide (((⟨#[116]⟩:ByteArray).size+r0.size)≤9223372036854775807)) then
 bif (decide ((((⟨#[116]⟩:ByteArray)++r0).size+s_2.size)≤9223372036854775807)) then
 (z1 key_0 (((⟨#[116]⟩:ByteArray)++r0)++s_2)).bind fun r1=>
 bif ((decide ((0:Int)≤(16:Int))) && (decide (16≤(r1.size:Int)))) then
 some (r1.extract 0 (16:Int).toNat)
 else none
 else none
 else none
noncomputable def spec_l18Tag:Kq:=E_spec_l18Tag spec_l01Var spec_MacOf
theorem QAB:Tells ctx PP 57 cv45 cv6 (fun a=>spec_l18Tag a.1 a.2.1 a.2.2):=fn_ok0 (hc Qa (hc Xz hl_nil)) Tryz.func57 ((fun z0 z1 a=>by kernel_rfl:∀ z0 z1,EntryIs0 ctx PP 57 [] [(53,MZ z0),(98,Hq z1)] cv45 cv6 fun a=>E_spec_l18Tag z0 z1 a.1 a.2.1 a.2.2) spec_l01Var spec_MacOf)
noncomputable def RAB {γ:Type} (F:Kq):Hd ctx γ:=hdl cv45.dec (fun a=>F a.1 a.2.1 a.2.2) cv6.enc
abbrev Nq:=ByteArray→Int→ByteArray→Option (ByteArray×Bool)
noncomputable def E_spec_LockText (z0:Iq) (z1:Jq) (z2:Kq) (key_0:ByteArray) (num_1:Int) (s_2:ByteArray):Option (ByteArray×Bool):=
 (z0 key_0 num_1 (s_2.size:Int)).bind fun r0=>
 bif (!r0.2) then
 some (⟨#[]⟩,false)
 else
 (z1 s_2 r0.1).bind fun r1=>
 (z2 key_0 num_1 r1).bind fun r2=>
 bif (decide ((r1.size+r2.size)≤9223372036854775807)) then
 some ((r1++r2),true)
 else none
noncomputable def spec_LockText:Nq:=E_spec_LockText spec_Mask spec_l18Xor spec_l18Tag
theorem SAB:Tells ctx PP 25 cv45 cv30 (fun a=>spec_LockText a.1 a.2.1 a.2.2):=fn_ok0 (hc MAB (hc OAB (hc QAB hl_nil))) Tryz.func25 ((fun z0 z1 z2 a=>by kernel_rfl:∀ z0 z1 z2,EntryIs0 ctx PP 25 [] [(55,NAB z0),(56,PAB z1),(57,RAB z2)] cv45 cv30 fun a=>E_spec_LockText z0 z1 z2 a.1 a.2.1 a.2.2) spec_Mask spec_l18Xor spec_l18Tag)
noncomputable def TAB {γ:Type} (F:Nq):Hd ctx γ:=hdl cv45.dec (fun a=>F a.1 a.2.1 a.2.2) cv30.enc
abbrev Oq:=Int→ByteArray→Option Int
inductive Gf where
 | c0 (sum_0:Int) (text_1:ByteArray) (i_5:Int)
 | c1 (sum_0:Int) (text_1:ByteArray) (i_5:Int) (k_6:Int)
noncomputable def O0:Gf→LI
 | .c0 sum_0 text_1 i_5=>(tdo Tryz.f99 208,[(0,[.one (.int .u32 sum_0)]),(1,[.one (.str text_1)]),(5,[.one (.int .i64 i_5)])],[])
 | .c1 sum_0 text_1 i_5 k_6=>(tdo Tryz.f99 26928,[(0,[.one (.int .u32 sum_0)]),(1,[.one (.str text_1)]),(5,[.one (.int .i64 i_5)]),(6,[.one (.int .i64 k_6)])],[])
noncomputable def E_spec_SumMore (k:Gf→Option Int) (sum_0:Int) (text_1:ByteArray):Option Int:=
 k (.c0 sum_0 text_1 0)
noncomputable def B_spec_SumMore (k:Gf→Option Int):Gf→Option Int
 | .c0 sum_0 text_1 i_5=>
 bif (decide (i_5<(text_1.size:Int))) then
  bif ((decide (0≤i_5)) && (decide (i_5<(text_1.size:Int)))) then
  k (.c1 (w32 (((BitVec.toNat ((BitVec.ofInt (IntKind.bits IntKind.u32) sum_0) ^^^ (BitVec.ofInt (IntKind.bits IntKind.u32) (w32 (bt text_1 i_5))))):Nat):Int)) text_1 i_5 0)
  else none
 else
  some sum_0
 | .c1 sum_0 text_1 i_5 k_6=>
 bif (decide (k_6<8)) then
  bif ((sum_0.tmod 2) == 1) then
  k (.c1 (w32 (((BitVec.toNat ((BitVec.ofInt (IntKind.bits IntKind.u32) (w32 (sum_0.tdiv 2))) ^^^ (BitVec.ofInt (IntKind.bits IntKind.u32) 3558460437))):Nat):Int)) text_1 i_5 (w64 (k_6+1)))
  else
  k (.c1 (w32 (sum_0.tdiv 2)) text_1 i_5 (w64 (k_6+1)))
 else
  k (.c0 sum_0 text_1 (w64 (i_5+1)))
noncomputable def L_spec_SumMore:Nat→Gf→Option Int
 | 0,_=>none
 | m+1,s=>B_spec_SumMore (L_spec_SumMore m) s
noncomputable def spec_SumMore:Oq:=E_spec_SumMore (L_spec_SumMore gas)
theorem UAB:Tells ctx PP 99 cv46 cv10 (fun a=>spec_SumMore a.1 a.2):=
 have b:CutIs ctx PP 99 Tryz.f99 [] [] cv10 O0 (B_spec_SumMore):=fun _ s=>by cases s <;> kernel_rfl
 have e:EntryIs ctx PP 99 [] [] cv46 cv10 O0 (fun k a=>E_spec_SumMore k a.1 a.2):=fun _ a=>by kernel_rfl
 fn_ok hl_nil Tryz.func99 (fun s s' h=>by cases s <;> cases s' <;> first | (cases h;done) | (cases h;rfl) | exact (rg_ne h (by kernel_rfl)).elim) (fun _=>rfl) (fun _ _=>rfl) b e gas
noncomputable def VAB {γ:Type} (F:Oq):Hd ctx γ:=hdl cv46.dec (fun a=>F a.1 a.2) cv10.enc
abbrev Pq:=ByteArray→Option Int
noncomputable def E_spec_SumOf (z0:Oq) (text_0:ByteArray):Option Int:=
 (z0 4294967295 text_0).bind fun r0=>
 some r0
noncomputable def spec_SumOf:Pq:=E_spec_SumOf spec_SumMore
theorem WAB:Tells ctx PP 59 cv6 cv10 (fun a=>spec_SumOf a):=fn_ok0 (hc UAB hl_nil) Tryz.func59 ((fun z0 a=>by kernel_rfl:∀ z0,EntryIs0 ctx PP 59 [] [(99,VAB z0)] cv6 cv10 fun a=>E_spec_SumOf z0 a) spec_SumMore)
noncomputable def XAB {γ:Type} (F:Pq):Hd ctx γ:=hdl cv6.dec (fun a=>F a) cv10.enc
abbrev Qq:=Int→Option ByteArray
noncomputable def E_spec_l02Four (x_0:Int):Option ByteArray:=
 some (ofBytes [(w8 (Int.fdiv x_0 (2 ^ (Min.min (24:Int).toNat (IntKind.bits IntKind.u32))))),(w8 (Int.fdiv x_0 (2 ^ (Min.min (16:Int).toNat (IntKind.bits IntKind.u32))))),(w8 (Int.fdiv x_0 (2 ^ (Min.min (8:Int).toNat (IntKind.bits IntKind.u32))))),(w8 x_0)])
noncomputable def spec_l02Four:Qq:=E_spec_l02Four
theorem YAB:Tells ctx PP 58 cv10 cv6 (fun a=>spec_l02Four a):=fn_ok0 hl_nil Tryz.func58 (fun a=>by kernel_rfl:EntryIs0 ctx PP 58 [] [] cv10 cv6 fun a=>E_spec_l02Four a)
noncomputable def ZAB {γ:Type} (F:Qq):Hd ctx γ:=hdl cv10.dec (fun a=>F a) cv6.enc
abbrev Rq:=ByteArray→Option (ByteArray×Bool)
noncomputable def E_spec_Frame (z0:NY) (z1:DZ) (z2:Pq) (z3:Qq) (text_0:ByteArray):Option (ByteArray×Bool):=
 (z0 (text_0.size:Int) 1 9000).bind fun r0=>
 bif (!r0) then
 some (⟨#[]⟩,false)
 else
 (z1 (text_0.size:Int)).bind fun r1=>
 (z2 text_0).bind fun r2=>
 (z3 r2).bind fun r3=>
 bif (decide ((r1.size+r3.size)≤9223372036854775807)) then
 bif (decide (((r1++r3).size+text_0.size)≤9223372036854775807)) then
 some (((r1++r3)++text_0),true)
 else none
 else none
noncomputable def spec_Frame:Rq:=E_spec_Frame spec_l01In spec_l01Var spec_SumOf spec_l02Four
theorem AAC:Tells ctx PP 26 cv6 cv30 (fun a=>spec_Frame a):=fn_ok0 (hc CZ (hc Qa (hc WAB (hc YAB hl_nil)))) Tryz.func26 ((fun z0 z1 z2 z3 a=>by kernel_rfl:∀ z0 z1 z2 z3,EntryIs0 ctx PP 26 [] [(24,TY z0),(53,MZ z1),(59,XAB z2),(58,ZAB z3)] cv6 cv30 fun a=>E_spec_Frame z0 z1 z2 z3 a) spec_l01In spec_l01Var spec_SumOf spec_l02Four)
noncomputable def BAC {γ:Type} (F:Rq):Hd ctx γ:=hdl cv6.dec (fun a=>F a) cv30.enc
abbrev Rj:=ByteArray→Int→SRec→Option ((List SAct)×Bool)
noncomputable def E_spec_BookActs (z0:Ib) (z1:NY) (z2:Nq) (z3:Rq) (key_0:ByteArray) (count_1:Int) (r_2:SRec):Option ((List SAct)×Bool):=
 (z0 r_2).bind fun r0=>
 bif (!r0.2) then
 some ([],false)
 else
 (z1 count_1 0 10000).bind fun r1=>
 bif (!r1) then
  some ([],false)
 else
  (z2 key_0 (w64 (count_1+1)) r0.1).bind fun r2=>
  (z3 r2.1).bind fun r3=>
  some ([⟨1,⟨#[98,111,111,107]⟩,r3.1,⟨#[]⟩⟩,⟨2,⟨#[98,111,111,107]⟩,⟨#[]⟩,⟨#[]⟩⟩],true)
noncomputable def spec_BookActs:Rj:=E_spec_BookActs spec_RecText spec_l01In spec_LockText spec_Frame
theorem S9:Tells ctx PP 7 cv47 cv48 (fun a=>spec_BookActs a.1 a.2.1 a.2.2):=fn_ok0 (hc Ip (hc CZ (hc SAB (hc AAC hl_nil)))) Tryz.func7 ((fun z0 z1 z2 z3 a=>by kernel_rfl:∀ z0 z1 z2 z3,EntryIs0 ctx PP 7 [] [(23,Zj z0),(24,TY z1),(25,TAB z2),(26,BAC z3)] cv47 cv48 fun a=>E_spec_BookActs z0 z1 z2 z3 a.1 a.2.1 a.2.2) spec_RecText spec_l01In spec_LockText spec_Frame)
noncomputable def Uw {γ:Type} (F:Rj):Hd ctx γ:=hdl cv47.dec (fun a=>F a.1 a.2.1 a.2.2) cv48.enc
abbrev Hf:=ByteArray→Option Bool
noncomputable def Tq (z0:NY) (s_0:ByteArray):Option Bool:=
 (z0 (s_0.size:Int) 1 8).bind fun r0=>
 some r0
noncomputable def NZ:Hf:=Tq spec_l01In
theorem U0:Tells ctx PP 74 cv6 cv1 (fun a=>NZ a):=fn_ok0 (hc CZ hl_nil) Tryz.func74 ((fun z0 a=>by kernel_rfl:∀ z0,EntryIs0 ctx PP 74 [] [(24,TY z0)] cv6 cv1 fun a=>Tq z0 a) spec_l01In)
noncomputable def Vq {γ:Type} (F:Hf):Hd ctx γ:=hdl cv6.dec (fun a=>F a) cv1.enc
abbrev Aa:=SDisk→Option Bool
inductive Jf where
 | c0 (i_3:Int) (d_1:SDisk)
noncomputable def X0:Jf→LI
 | .c0 i_3 d_1=>(tdo Tryz.f49 464,[(1,[.one (.ptr 64 0)]),(3,[.one (.int .i64 i_3)])],[(64,.var [.rsl 81 d_1.fFiles])])
noncomputable def Wq (z0:Hf) (z1:NY) (k:Jf→Option Bool) (d_0:SDisk):Option Bool:=
 bif (decide ((d_0.fFiles.length:Int) > 30)) then
 some false
 else
 k (.c0 0 d_0)
noncomputable def Hl (z0:Hf) (z1:NY) (k:Jf→Option Bool):Jf→Option Bool
 | .c0 i_3 d_1=>
 bif (decide (i_3<(d_1.fFiles.length:Int))) then
  bif ((decide (0≤i_3)) && (decide (i_3<(d_1.fFiles.length:Int)))) then
  (z0 (d_1.fFiles.getD i_3.toNat (⟨⟨#[]⟩,⟨#[]⟩,0⟩:SFile)).fName).bind fun r0=>
  bif (!r0) then
  some false
  else
  bif (decide (((d_1.fFiles.getD i_3.toNat (⟨⟨#[]⟩,⟨#[]⟩,0⟩:SFile)).fText.size:Int) > 20000)) then
   some false
  else
   (z1 (d_1.fFiles.getD i_3.toNat (⟨⟨#[]⟩,⟨#[]⟩,0⟩:SFile)).fKept 0 ((d_1.fFiles.getD i_3.toNat (⟨⟨#[]⟩,⟨#[]⟩,0⟩:SFile)).fText.size:Int)).bind fun r1=>
   bif (!r1) then
   some false
   else
   bif (decide (i_3 > 0)) then
    bif ((decide (0≤(w64 (i_3 - 1)))) && (decide ((w64 (i_3 - 1))<(d_1.fFiles.length:Int)))) then
    bif (!(Op.bytesLess (ByteArray.toList (d_1.fFiles.getD (w64 (i_3 - 1)).toNat (⟨⟨#[]⟩,⟨#[]⟩,0⟩:SFile)).fName) (ByteArray.toList (d_1.fFiles.getD i_3.toNat (⟨⟨#[]⟩,⟨#[]⟩,0⟩:SFile)).fName))) then
    some false
    else
    k (.c0 (w64 (i_3+1)) d_1)
    else none
   else
    k (.c0 (w64 (i_3+1)) d_1)
  else none
 else
  some true
noncomputable def Rf:Nat→Jf→Option Bool
 | 0,_=>none
 | m+1,s=>Hl NZ spec_l01In (Rf m) s
noncomputable def WY:Aa:=Wq NZ spec_l01In (Rf gas)
theorem Eo:Tells ctx PP 49 cv66 cv1 (fun a=>WY a):=
 have b:∀ z0 z1,CutIs ctx PP 49 Tryz.f49 [] [(74,Vq z0),(24,TY z1)] cv1 X0 (Hl z0 z1):=fun z0 z1 _ s=>by cases s <;> kernel_rfl
 have e:∀ z0 z1,EntryIs ctx PP 49 [] [(74,Vq z0),(24,TY z1)] cv66 cv1 X0 (fun k a=>Wq z0 z1 k a):=fun z0 z1 _ a=>by kernel_rfl
 fn_ok (hc U0 (hc CZ hl_nil)) Tryz.func49 (fun s s' h=>by cases s;cases s';(repeat cases ‹SDisk›);cases h;rfl) (fun _=>rfl) (fun _ _=>rfl) (b NZ spec_l01In) (e NZ spec_l01In) gas
noncomputable def Xc {γ:Type} (F:Aa):Hd ctx γ:=hdl cv66.dec (fun a=>F a) cv1.enc
abbrev Lj:=SDisk→ByteArray→Option Int
inductive Tf where
 | c0 (name_1:ByteArray) (i_5:Int) (d_2:SDisk)
noncomputable def Y0:Tf→LI
 | .c0 name_1 i_5 d_2=>(tdo Tryz.f50 208,[(1,[.one (.str name_1)]),(2,[.one (.ptr 128 0)]),(5,[.one (.int .i64 i_5)])],[(128,.var [.rsl 81 d_2.fFiles])])
noncomputable def Xq (k:Tf→Option Int) (d_0:SDisk) (name_1:ByteArray):Option Int:=
 k (.c0 name_1 0 d_0)
noncomputable def Il (k:Tf→Option Int):Tf→Option Int
 | .c0 name_1 i_5 d_2=>
 bif (decide (i_5<(d_2.fFiles.length:Int))) then
  bif ((decide (0≤i_5)) && (decide (i_5<(d_2.fFiles.length:Int)))) then
  bif ((ByteArray.toList (d_2.fFiles.getD i_5.toNat (⟨⟨#[]⟩,⟨#[]⟩,0⟩:SFile)).fName) == (ByteArray.toList name_1)) then
  some i_5
  else
  k (.c0 name_1 (w64 (i_5+1)) d_2)
  else none
 else
  some (-(1:Int))
noncomputable def Uf:Nat→Tf→Option Int
 | 0,_=>none
 | m+1,s=>Il (Uf m) s
noncomputable def Ja:Lj:=Xq (Uf gas)
theorem Dw:Tells ctx PP 50 cv67 cv27 (fun a=>Ja a.1 a.2):=
 have b:CutIs ctx PP 50 Tryz.f50 [] [] cv27 Y0 (Il):=fun _ s=>by cases s <;> kernel_rfl
 have e:EntryIs ctx PP 50 [] [] cv67 cv27 Y0 (fun k a=>Xq k a.1 a.2):=fun _ a=>by kernel_rfl
 fn_ok hl_nil Tryz.func50 (fun s s' h=>by cases s;cases s';(repeat cases ‹SDisk›);cases h;rfl) (fun _=>rfl) (fun _ _=>rfl) b e gas
noncomputable def Ew {γ:Type} (F:Lj):Hd ctx γ:=hdl cv67.dec (fun a=>F a.1 a.2) cv27.enc
abbrev Yq:=SDisk→SFile→Option SDisk
inductive Vf where
 | c0 (i_6:Int) (d_2:SDisk) (f_3:SFile) (v_4r0:(List SFile)) (out_5r0:(List SFile))
 | c1 (i_7:Int) (d_2:SDisk) (f_3:SFile) (v_4r0:(List SFile)) (out_5r0:(List SFile))
noncomputable def O1:Vf→LI
 | .c0 i_6 d_2 f_3 v_4r0 out_5r0=>(tdo Tryz.f75 464,[(2,[.one (.ptr 128 0)]),(3,[.one (.ptr 192 0)]),(4,[.one (.ptr 256 0)]),(5,[.one (.ptr 320 0)]),(6,[.one (.int .i64 i_6)])],[(128,.var [.rsl 81 d_2.fFiles]),(192,.var [.str f_3.fName,.str f_3.fText,.int .i64 f_3.fKept]),(256,.var [.own 1016384]),(320,.var [.own 1020480]),(1016384,.sl 81 v_4r0),(1020480,.sl 81 out_5r0)])
 | .c1 i_7 d_2 f_3 v_4r0 out_5r0=>(tdo Tryz.f75 2000,[(2,[.one (.ptr 128 0)]),(3,[.one (.ptr 192 0)]),(4,[.one (.ptr 256 0)]),(5,[.one (.ptr 320 0)]),(7,[.one (.int .i64 i_7)])],[(128,.var [.rsl 81 d_2.fFiles]),(192,.var [.str f_3.fName,.str f_3.fText,.int .i64 f_3.fKept]),(256,.var [.own 1016384]),(320,.var [.own 1020480]),(1016384,.sl 81 v_4r0),(1020480,.sl 81 out_5r0)])
noncomputable def Zq (k:Vf→Option SDisk) (d_0:SDisk) (f_1:SFile):Option SDisk:=
 k (.c0 0 d_0 f_1 [] [])
noncomputable def Yb (k:Vf→Option SDisk):Vf→Option SDisk
 | .c0 i_6 d_2 f_3 v_4r0 out_5r0=>
 bif (decide (i_6<(d_2.fFiles.length:Int))) then
  bif ((decide (0≤i_6)) && (decide (i_6<(d_2.fFiles.length:Int)))) then
  bif (Op.bytesLess (ByteArray.toList (d_2.fFiles.getD i_6.toNat (⟨⟨#[]⟩,⟨#[]⟩,0⟩:SFile)).fName) (ByteArray.toList f_3.fName)) then
  bif ((decide (0≤i_6)) && (decide (i_6<(d_2.fFiles.length:Int)))) then
  bif (decide (((out_5r0.length+1)*40)≤140737488355328)) then
  k (.c0 (w64 (i_6+1)) d_2 f_3 v_4r0 (out_5r0++[(d_2.fFiles.getD i_6.toNat (⟨⟨#[]⟩,⟨#[]⟩,0⟩:SFile))]))
  else none
  else none
  else
  k (.c0 (w64 (i_6+1)) d_2 f_3 v_4r0 out_5r0)
  else none
 else
  bif (decide (((out_5r0.length+1)*40)≤140737488355328)) then
  k (.c1 0 d_2 f_3 v_4r0 (out_5r0++[f_3]))
  else none
 | .c1 i_7 d_2 f_3 v_4r0 out_5r0=>
 bif (decide (i_7<(d_2.fFiles.length:Int))) then
  bif ((decide (0≤i_7)) && (decide (i_7<(d_2.fFiles.length:Int)))) then
  bif (!((Op.bytesLess (ByteArray.toList (d_2.fFiles.getD i_7.toNat (⟨⟨#[]⟩,⟨#[]⟩,0⟩:SFile)).fName) (ByteArray.toList f_3.fName)) || ((ByteArray.toList (d_2.fFiles.getD i_7.toNat (⟨⟨#[]⟩,⟨#[]⟩,0⟩:SFile)).fName) == (ByteArray.toList f_3.fName)))) then
  bif ((decide (0≤i_7)) && (decide (i_7<(d_2.fFiles.length:Int)))) then
  bif (decide (((out_5r0.length+1)*40)≤140737488355328)) then
  k (.c1 (w64 (i_7+1)) d_2 f_3 v_4r0 (out_5r0++[(d_2.fFiles.getD i_7.toNat (⟨⟨#[]⟩,⟨#[]⟩,0⟩:SFile))]))
  else none
  else none
  else
  k (.c1 (w64 (i_7+1)) d_2 f_3 v_4r0 out_5r0)
  else none
 else
  some ⟨out_5r0⟩
noncomputable def OZ:Nat→Vf→Option SDisk
 | 0,_=>none
 | m+1,s=>Yb (OZ m) s
noncomputable def Xf:Yq:=Zq (OZ gas)
theorem CAC:Tells ctx PP 75 cv68 cv69 (fun a=>Xf a.1 a.2):=
 have b:CutIs ctx PP 75 Tryz.f75 [] [] cv69 O1 (Yb):=fun _ s=>by cases s <;> kernel_rfl
 have e:EntryIs ctx PP 75 [] [] cv68 cv69 O1 (fun k a=>Zq k a.1 a.2):=fun _ a=>by kernel_rfl
 fn_ok hl_nil Tryz.func75 (fun s s' h=>by cases s <;> cases s' <;> first | ((repeat cases ‹SDisk›);(repeat cases ‹SFile›);cases h;done) | ((repeat cases ‹SDisk›);(repeat cases ‹SFile›);cases h;rfl) | exact (rg_ne h (by kernel_rfl)).elim) (fun _=>rfl) (fun _ _=>rfl) b e gas
noncomputable def DAC {γ:Type} (F:Yq):Hd ctx γ:=hdl cv68.dec (fun a=>F a.1 a.2) cv69.enc
abbrev Ar:=SDisk→ByteArray→Option SDisk
inductive Yf where
 | c0 (name_1:ByteArray) (i_6:Int) (d_2:SDisk) (v_4r0:(List SFile)) (out_5r0:(List SFile))
noncomputable def U1:Yf→LI
 | .c0 name_1 i_6 d_2 v_4r0 out_5r0=>(tdo Tryz.f76 464,[(1,[.one (.str name_1)]),(2,[.one (.ptr 128 0)]),(4,[.one (.ptr 256 0)]),(5,[.one (.ptr 320 0)]),(6,[.one (.int .i64 i_6)])],[(128,.var [.rsl 81 d_2.fFiles]),(256,.var [.own 1016384]),(320,.var [.own 1020480]),(1016384,.sl 81 v_4r0),(1020480,.sl 81 out_5r0)])
noncomputable def Hr (k:Yf→Option SDisk) (d_0:SDisk) (name_1:ByteArray):Option SDisk:=
 k (.c0 name_1 0 d_0 [] [])
noncomputable def Jl (k:Yf→Option SDisk):Yf→Option SDisk
 | .c0 name_1 i_6 d_2 v_4r0 out_5r0=>
 bif (decide (i_6<(d_2.fFiles.length:Int))) then
  bif ((decide (0≤i_6)) && (decide (i_6<(d_2.fFiles.length:Int)))) then
  bif (!((ByteArray.toList (d_2.fFiles.getD i_6.toNat (⟨⟨#[]⟩,⟨#[]⟩,0⟩:SFile)).fName) == (ByteArray.toList name_1))) then
  bif ((decide (0≤i_6)) && (decide (i_6<(d_2.fFiles.length:Int)))) then
  bif (decide (((out_5r0.length+1)*40)≤140737488355328)) then
  k (.c0 name_1 (w64 (i_6+1)) d_2 v_4r0 (out_5r0++[(d_2.fFiles.getD i_6.toNat (⟨⟨#[]⟩,⟨#[]⟩,0⟩:SFile))]))
  else none
  else none
  else
  k (.c0 name_1 (w64 (i_6+1)) d_2 v_4r0 out_5r0)
  else none
 else
  some ⟨out_5r0⟩
noncomputable def Zf:Nat→Yf→Option SDisk
 | 0,_=>none
 | m+1,s=>Jl (Zf m) s
noncomputable def Ag:Ar:=Hr (Zf gas)
theorem EAC:Tells ctx PP 76 cv67 cv69 (fun a=>Ag a.1 a.2):=
 have b:CutIs ctx PP 76 Tryz.f76 [] [] cv69 U1 (Jl):=fun _ s=>by cases s <;> kernel_rfl
 have e:EntryIs ctx PP 76 [] [] cv67 cv69 U1 (fun k a=>Hr k a.1 a.2):=fun _ a=>by kernel_rfl
 fn_ok hl_nil Tryz.func76 (fun s s' h=>by cases s;cases s';(repeat cases ‹SDisk›);cases h;rfl) (fun _=>rfl) (fun _ _=>rfl) b e gas
noncomputable def FAC {γ:Type} (F:Ar):Hd ctx γ:=hdl cv67.dec (fun a=>F a.1 a.2) cv69.enc
abbrev Ll:=SDisk→SAct→Option (SDisk×Bool)
noncomputable def Ir (z0:Aa) (z1:Hf) (z2:Lj) (z3:Yq) (z4:Ar) (d_0:SDisk) (a_1:SAct):Option (SDisk×Bool):=
 (z0 d_0).bind fun r0=>
 bif (!r0) then
 some (⟨[]⟩,false)
 else
 (z1 a_1.fName).bind fun r1=>
 bif (!r1) then
  some (⟨[]⟩,false)
 else
  bif (a_1.fKind != 3) then
  bif (!((ByteArray.toList a_1.fTo) == (ByteArray.toList ⟨#[]⟩))) then
   some (⟨[]⟩,false)
  else
   bif (a_1.fKind != 1) then
   bif (!((ByteArray.toList a_1.fText) == (ByteArray.toList ⟨#[]⟩))) then
    some (⟨[]⟩,false)
   else
    (z2 d_0 a_1.fName).bind fun r2=>
    bif (decide (r2≥0)) then
    bif ((decide (0≤r2)) && (decide (r2<(d_0.fFiles.length:Int)))) then
    bif (a_1.fKind == 1) then
     bif (decide (((d_0.fFiles.getD r2.toNat (⟨⟨#[]⟩,⟨#[]⟩,0⟩:SFile)).fText.size+a_1.fText.size)≤9223372036854775807)) then
     (z3 d_0 ⟨(d_0.fFiles.getD r2.toNat (⟨⟨#[]⟩,⟨#[]⟩,0⟩:SFile)).fName,((d_0.fFiles.getD r2.toNat (⟨⟨#[]⟩,⟨#[]⟩,0⟩:SFile)).fText++a_1.fText),(d_0.fFiles.getD r2.toNat (⟨⟨#[]⟩,⟨#[]⟩,0⟩:SFile)).fKept⟩).bind fun r3=>
     (z0 r3).bind fun r4=>
     bif (!r4) then
     some (⟨[]⟩,false)
     else
     some (r3,true)
     else none
    else
     bif (decide (r2<0)) then
     some (⟨[]⟩,false)
     else
     bif (a_1.fKind == 2) then
      (z3 d_0 ⟨(d_0.fFiles.getD r2.toNat (⟨⟨#[]⟩,⟨#[]⟩,0⟩:SFile)).fName,(d_0.fFiles.getD r2.toNat (⟨⟨#[]⟩,⟨#[]⟩,0⟩:SFile)).fText,((d_0.fFiles.getD r2.toNat (⟨⟨#[]⟩,⟨#[]⟩,0⟩:SFile)).fText.size:Int)⟩).bind fun r5=>
      (z0 r5).bind fun r6=>
      bif (!r6) then
      some (⟨[]⟩,false)
      else
      some (r5,true)
     else
      bif (a_1.fKind == 3) then
      bif (decide ((d_0.fFiles.getD r2.toNat (⟨⟨#[]⟩,⟨#[]⟩,0⟩:SFile)).fKept<((d_0.fFiles.getD r2.toNat (⟨⟨#[]⟩,⟨#[]⟩,0⟩:SFile)).fText.size:Int))) then
       some (⟨[]⟩,false)
      else
       bif ((ByteArray.toList a_1.fTo) == (ByteArray.toList a_1.fName)) then
       some (⟨[]⟩,false)
       else
       (z1 a_1.fTo).bind fun r7=>
       bif (!r7) then
        some (⟨[]⟩,false)
       else
        (z4 d_0 a_1.fName).bind fun r8=>
        (z3 r8 ⟨a_1.fTo,(d_0.fFiles.getD r2.toNat (⟨⟨#[]⟩,⟨#[]⟩,0⟩:SFile)).fText,(d_0.fFiles.getD r2.toNat (⟨⟨#[]⟩,⟨#[]⟩,0⟩:SFile)).fKept⟩).bind fun r9=>
        (z0 r9).bind fun r10=>
        bif (!r10) then
        some (⟨[]⟩,false)
        else
        some (r9,true)
      else
      bif (a_1.fKind == 4) then
       (z4 d_0 a_1.fName).bind fun r11=>
       (z0 r11).bind fun r12=>
       bif (!r12) then
       some (⟨[]⟩,false)
       else
       some (r11,true)
      else
       some (⟨[]⟩,false)
    else none
    else
    bif (a_1.fKind == 1) then
     bif (decide (((⟨#[]⟩:ByteArray).size+a_1.fText.size)≤9223372036854775807)) then
     (z3 d_0 ⟨a_1.fName,((⟨#[]⟩:ByteArray)++a_1.fText),0⟩).bind fun r13=>
     (z0 r13).bind fun r14=>
     bif (!r14) then
     some (⟨[]⟩,false)
     else
     some (r13,true)
     else none
    else
     bif (decide (r2<0)) then
     some (⟨[]⟩,false)
     else
     bif (a_1.fKind == 2) then
      (z3 d_0 ⟨a_1.fName,⟨#[]⟩,((⟨#[]⟩:ByteArray).size:Int)⟩).bind fun r15=>
      (z0 r15).bind fun r16=>
      bif (!r16) then
      some (⟨[]⟩,false)
      else
      some (r15,true)
     else
      bif (a_1.fKind == 3) then
      bif ((ByteArray.toList a_1.fTo) == (ByteArray.toList a_1.fName)) then
       some (⟨[]⟩,false)
      else
       (z1 a_1.fTo).bind fun r17=>
       bif (!r17) then
       some (⟨[]⟩,false)
       else
       (z4 d_0 a_1.fName).bind fun r18=>
       (z3 r18 ⟨a_1.fTo,⟨#[]⟩,0⟩).bind fun r19=>
       (z0 r19).bind fun r20=>
       bif (!r20) then
        some (⟨[]⟩,false)
       else
        some (r19,true)
      else
      bif (a_1.fKind == 4) then
       (z4 d_0 a_1.fName).bind fun r21=>
       (z0 r21).bind fun r22=>
       bif (!r22) then
       some (⟨[]⟩,false)
       else
       some (r21,true)
      else
       some (⟨[]⟩,false)
   else
   (z2 d_0 a_1.fName).bind fun r23=>
   bif (decide (r23≥0)) then
    bif ((decide (0≤r23)) && (decide (r23<(d_0.fFiles.length:Int)))) then
    bif (a_1.fKind == 1) then
    bif (decide (((d_0.fFiles.getD r23.toNat (⟨⟨#[]⟩,⟨#[]⟩,0⟩:SFile)).fText.size+a_1.fText.size)≤9223372036854775807)) then
    (z3 d_0 ⟨(d_0.fFiles.getD r23.toNat (⟨⟨#[]⟩,⟨#[]⟩,0⟩:SFile)).fName,((d_0.fFiles.getD r23.toNat (⟨⟨#[]⟩,⟨#[]⟩,0⟩:SFile)).fText++a_1.fText),(d_0.fFiles.getD r23.toNat (⟨⟨#[]⟩,⟨#[]⟩,0⟩:SFile)).fKept⟩).bind fun r24=>
    (z0 r24).bind fun r25=>
    bif (!r25) then
     some (⟨[]⟩,false)
    else
     some (r24,true)
    else none
    else
    bif (decide (r23<0)) then
     some (⟨[]⟩,false)
    else
     bif (a_1.fKind == 2) then
     (z3 d_0 ⟨(d_0.fFiles.getD r23.toNat (⟨⟨#[]⟩,⟨#[]⟩,0⟩:SFile)).fName,(d_0.fFiles.getD r23.toNat (⟨⟨#[]⟩,⟨#[]⟩,0⟩:SFile)).fText,((d_0.fFiles.getD r23.toNat (⟨⟨#[]⟩,⟨#[]⟩,0⟩:SFile)).fText.size:Int)⟩).bind fun r26=>
     (z0 r26).bind fun r27=>
     bif (!r27) then
      some (⟨[]⟩,false)
     else
      some (r26,true)
     else
     bif (a_1.fKind == 3) then
      bif (decide ((d_0.fFiles.getD r23.toNat (⟨⟨#[]⟩,⟨#[]⟩,0⟩:SFile)).fKept<((d_0.fFiles.getD r23.toNat (⟨⟨#[]⟩,⟨#[]⟩,0⟩:SFile)).fText.size:Int))) then
      some (⟨[]⟩,false)
      else
      bif ((ByteArray.toList a_1.fTo) == (ByteArray.toList a_1.fName)) then
       some (⟨[]⟩,false)
      else
       (z1 a_1.fTo).bind fun r28=>
       bif (!r28) then
       some (⟨[]⟩,false)
       else
       (z4 d_0 a_1.fName).bind fun r29=>
       (z3 r29 ⟨a_1.fTo,(d_0.fFiles.getD r23.toNat (⟨⟨#[]⟩,⟨#[]⟩,0⟩:SFile)).fText,(d_0.fFiles.getD r23.toNat (⟨⟨#[]⟩,⟨#[]⟩,0⟩:SFile)).fKept⟩).bind fun r30=>
       (z0 r30).bind fun r31=>
       bif (!r31) then
        some (⟨[]⟩,false)
       else
        some (r30,true)
     else
      bif (a_1.fKind == 4) then
      (z4 d_0 a_1.fName).bind fun r32=>
      (z0 r32).bind fun r33=>
      bif (!r33) then
       some (⟨[]⟩,false)
      else
       some (r32,true)
      else
      some (⟨[]⟩,false)
    else none
   else
    bif (a_1.fKind == 1) then
    bif (decide (((⟨#[]⟩:ByteArray).size+a_1.fText.size)≤9223372036854775807)) then
    (z3 d_0 ⟨a_1.fName,((⟨#[]⟩:ByteArray)++a_1.fText),0⟩).bind fun r34=>
    (z0 r34).bind fun r35=>
    bif (!r35) then
     some (⟨[]⟩,false)
    else
     some (r34,true)
    else none
    else
    bif (decide (r23<0)) then
     some (⟨[]⟩,false)
    else
     bif (a_1.fKind == 2) then
     (z3 d_0 ⟨a_1.fName,⟨#[]⟩,((⟨#[]⟩:ByteArray).size:Int)⟩).bind fun r36=>
     (z0 r36).bind fun r37=>
     bif (!r37) then
      some (⟨[]⟩,false)
     else
      some (r36,true)
     else
     bif (a_1.fKind == 3) then
      bif ((ByteArray.toList a_1.fTo) == (ByteArray.toList a_1.fName)) then
      some (⟨[]⟩,false)
      else
      (z1 a_1.fTo).bind fun r38=>
      bif (!r38) then
       some (⟨[]⟩,false)
      else
       (z4 d_0 a_1.fName).bind fun r39=>
       (z3 r39 ⟨a_1.fTo,⟨#[]⟩,0⟩).bind fun r40=>
       (z0 r40).bind fun r41=>
       bif (!r41) then
       some (⟨[]⟩,false)
       else
       some (r40,true)
     else
      bif (a_1.fKind == 4) then
      (z4 d_0 a_1.fName).bind fun r42=>
      (z0 r42).bind fun r43=>
      bif (!r43) then
       some (⟨[]⟩,false)
      else
       some (r42,true)
      else
      some (⟨[]⟩,false)
  else
  bif (a_1.fKind != 1) then
   bif (!((ByteArray.toList a_1.fText) == (ByteArray.toList ⟨#[]⟩))) then
   some (⟨[]⟩,false)
   else
   (z2 d_0 a_1.fName).bind fun r44=>
   bif (decide (r44≥0)) then
    bif ((decide (0≤r44)) && (decide (r44<(d_0.fFiles.length:Int)))) then
    bif (a_1.fKind == 1) then
    bif (decide (((d_0.fFiles.getD r44.toNat (⟨⟨#[]⟩,⟨#[]⟩,0⟩:SFile)).fText.size+a_1.fText.size)≤9223372036854775807)) then
    (z3 d_0 ⟨(d_0.fFiles.getD r44.toNat (⟨⟨#[]⟩,⟨#[]⟩,0⟩:SFile)).fName,((d_0.fFiles.getD r44.toNat (⟨⟨#[]⟩,⟨#[]⟩,0⟩:SFile)).fText++a_1.fText),(d_0.fFiles.getD r44.toNat (⟨⟨#[]⟩,⟨#[]⟩,0⟩:SFile)).fKept⟩).bind fun r45=>
    (z0 r45).bind fun r46=>
    bif (!r46) then
     some (⟨[]⟩,false)
    else
     some (r45,true)
    else none
    else
    bif (decide (r44<0)) then
     some (⟨[]⟩,false)
    else
     bif (a_1.fKind == 2) then
     (z3 d_0 ⟨(d_0.fFiles.getD r44.toNat (⟨⟨#[]⟩,⟨#[]⟩,0⟩:SFile)).fName,(d_0.fFiles.getD r44.toNat (⟨⟨#[]⟩,⟨#[]⟩,0⟩:SFile)).fText,((d_0.fFiles.getD r44.toNat (⟨⟨#[]⟩,⟨#[]⟩,0⟩:SFile)).fText.size:Int)⟩).bind fun r47=>
     (z0 r47).bind fun r48=>
     bif (!r48) then
      some (⟨[]⟩,false)
     else
      some (r47,true)
     else
     bif (a_1.fKind == 3) then
      bif (decide ((d_0.fFiles.getD r44.toNat (⟨⟨#[]⟩,⟨#[]⟩,0⟩:SFile)).fKept<((d_0.fFiles.getD r44.toNat (⟨⟨#[]⟩,⟨#[]⟩,0⟩:SFile)).fText.size:Int))) then
      some (⟨[]⟩,false)
      else
      bif ((ByteArray.toList a_1.fTo) == (ByteArray.toList a_1.fName)) then
       some (⟨[]⟩,false)
      else
       (z1 a_1.fTo).bind fun r49=>
       bif (!r49) then
       some (⟨[]⟩,false)
       else
       (z4 d_0 a_1.fName).bind fun r50=>
       (z3 r50 ⟨a_1.fTo,(d_0.fFiles.getD r44.toNat (⟨⟨#[]⟩,⟨#[]⟩,0⟩:SFile)).fText,(d_0.fFiles.getD r44.toNat (⟨⟨#[]⟩,⟨#[]⟩,0⟩:SFile)).fKept⟩).bind fun r51=>
       (z0 r51).bind fun r52=>
       bif (!r52) then
        some (⟨[]⟩,false)
       else
        some (r51,true)
     else
      bif (a_1.fKind == 4) then
      (z4 d_0 a_1.fName).bind fun r53=>
      (z0 r53).bind fun r54=>
      bif (!r54) then
       some (⟨[]⟩,false)
      else
       some (r53,true)
      else
      some (⟨[]⟩,false)
    else none
   else
    bif (a_1.fKind == 1) then
    bif (decide (((⟨#[]⟩:ByteArray).size+a_1.fText.size)≤9223372036854775807)) then
    (z3 d_0 ⟨a_1.fName,((⟨#[]⟩:ByteArray)++a_1.fText),0⟩).bind fun r55=>
    (z0 r55).bind fun r56=>
    bif (!r56) then
     some (⟨[]⟩,false)
    else
     some (r55,true)
    else none
    else
    bif (decide (r44<0)) then
     some (⟨[]⟩,false)
    else
     bif (a_1.fKind == 2) then
     (z3 d_0 ⟨a_1.fName,⟨#[]⟩,((⟨#[]⟩:ByteArray).size:Int)⟩).bind fun r57=>
     (z0 r57).bind fun r58=>
     bif (!r58) then
      some (⟨[]⟩,false)
     else
      some (r57,true)
     else
     bif (a_1.fKind == 3) then
      bif ((ByteArray.toList a_1.fTo) == (ByteArray.toList a_1.fName)) then
      some (⟨[]⟩,false)
      else
      (z1 a_1.fTo).bind fun r59=>
      bif (!r59) then
       some (⟨[]⟩,false)
      else
       (z4 d_0 a_1.fName).bind fun r60=>
       (z3 r60 ⟨a_1.fTo,⟨#[]⟩,0⟩).bind fun r61=>
       (z0 r61).bind fun r62=>
       bif (!r62) then
       some (⟨[]⟩,false)
       else
       some (r61,true)
     else
      bif (a_1.fKind == 4) then
      (z4 d_0 a_1.fName).bind fun r63=>
      (z0 r63).bind fun r64=>
      bif (!r64) then
       some (⟨[]⟩,false)
      else
       some (r63,true)
      else
      some (⟨[]⟩,false)
  else
   (z2 d_0 a_1.fName).bind fun r65=>
   bif (decide (r65≥0)) then
   bif ((decide (0≤r65)) && (decide (r65<(d_0.fFiles.length:Int)))) then
   bif (a_1.fKind == 1) then
    bif (decide (((d_0.fFiles.getD r65.toNat (⟨⟨#[]⟩,⟨#[]⟩,0⟩:SFile)).fText.size+a_1.fText.size)≤9223372036854775807)) then
    (z3 d_0 ⟨(d_0.fFiles.getD r65.toNat (⟨⟨#[]⟩,⟨#[]⟩,0⟩:SFile)).fName,((d_0.fFiles.getD r65.toNat (⟨⟨#[]⟩,⟨#[]⟩,0⟩:SFile)).fText++a_1.fText),(d_0.fFiles.getD r65.toNat (⟨⟨#[]⟩,⟨#[]⟩,0⟩:SFile)).fKept⟩).bind fun r66=>
    (z0 r66).bind fun r67=>
    bif (!r67) then
    some (⟨[]⟩,false)
    else
    some (r66,true)
    else none
   else
    bif (decide (r65<0)) then
    some (⟨[]⟩,false)
    else
    bif (a_1.fKind == 2) then
     (z3 d_0 ⟨(d_0.fFiles.getD r65.toNat (⟨⟨#[]⟩,⟨#[]⟩,0⟩:SFile)).fName,(d_0.fFiles.getD r65.toNat (⟨⟨#[]⟩,⟨#[]⟩,0⟩:SFile)).fText,((d_0.fFiles.getD r65.toNat (⟨⟨#[]⟩,⟨#[]⟩,0⟩:SFile)).fText.size:Int)⟩).bind fun r68=>
     (z0 r68).bind fun r69=>
     bif (!r69) then
     some (⟨[]⟩,false)
     else
     some (r68,true)
    else
     bif (a_1.fKind == 3) then
     bif (decide ((d_0.fFiles.getD r65.toNat (⟨⟨#[]⟩,⟨#[]⟩,0⟩:SFile)).fKept<((d_0.fFiles.getD r65.toNat (⟨⟨#[]⟩,⟨#[]⟩,0⟩:SFile)).fText.size:Int))) then
      some (⟨[]⟩,false)
     else
      bif ((ByteArray.toList a_1.fTo) == (ByteArray.toList a_1.fName)) then
      some (⟨[]⟩,false)
      else
      (z1 a_1.fTo).bind fun r70=>
      bif (!r70) then
       some (⟨[]⟩,false)
      else
       (z4 d_0 a_1.fName).bind fun r71=>
       (z3 r71 ⟨a_1.fTo,(d_0.fFiles.getD r65.toNat (⟨⟨#[]⟩,⟨#[]⟩,0⟩:SFile)).fText,(d_0.fFiles.getD r65.toNat (⟨⟨#[]⟩,⟨#[]⟩,0⟩:SFile)).fKept⟩).bind fun r72=>
       (z0 r72).bind fun r73=>
       bif (!r73) then
       some (⟨[]⟩,false)
       else
       some (r72,true)
     else
     bif (a_1.fKind == 4) then
      (z4 d_0 a_1.fName).bind fun r74=>
      (z0 r74).bind fun r75=>
      bif (!r75) then
      some (⟨[]⟩,false)
      else
      some (r74,true)
     else
      some (⟨[]⟩,false)
   else none
   else
   bif (a_1.fKind == 1) then
    bif (decide (((⟨#[]⟩:ByteArray).size+a_1.fText.size)≤9223372036854775807)) then
    (z3 d_0 ⟨a_1.fName,((⟨#[]⟩:ByteArray)++a_1.fText),0⟩).bind fun r76=>
    (z0 r76).bind fun r77=>
    bif (!r77) then
    some (⟨[]⟩,false)
    else
    some (r76,true)
    else none
   else
    bif (decide (r65<0)) then
    some (⟨[]⟩,false)
    else
    bif (a_1.fKind == 2) then
     (z3 d_0 ⟨a_1.fName,⟨#[]⟩,((⟨#[]⟩:ByteArray).size:Int)⟩).bind fun r78=>
     (z0 r78).bind fun r79=>
     bif (!r79) then
     some (⟨[]⟩,false)
     else
     some (r78,true)
    else
     bif (a_1.fKind == 3) then
     bif ((ByteArray.toList a_1.fTo) == (ByteArray.toList a_1.fName)) then
      some (⟨[]⟩,false)
     else
      (z1 a_1.fTo).bind fun r80=>
      bif (!r80) then
      some (⟨[]⟩,false)
      else
      (z4 d_0 a_1.fName).bind fun r81=>
      (z3 r81 ⟨a_1.fTo,⟨#[]⟩,0⟩).bind fun r82=>
      (z0 r82).bind fun r83=>
      bif (!r83) then
       some (⟨[]⟩,false)
      else
       some (r82,true)
     else
     bif (a_1.fKind == 4) then
      (z4 d_0 a_1.fName).bind fun r84=>
      (z0 r84).bind fun r85=>
      bif (!r85) then
      some (⟨[]⟩,false)
      else
      some (r84,true)
     else
      some (⟨[]⟩,false)
noncomputable def Va:Ll:=Ir WY NZ Ja Xf Ag
theorem GAC:Tells ctx PP 36 cv70 cv71 (fun a=>Va a.1 a.2):=fn_ok0 (hc Eo (hc U0 (hc Dw (hc CAC (hc EAC hl_nil))))) Tryz.func36 ((fun z0 z1 z2 z3 z4 a=>by kernel_rfl:∀ z0 z1 z2 z3 z4,EntryIs0 ctx PP 36 [] [(49,Xc z0),(74,Vq z1),(50,Ew z2),(75,DAC z3),(76,FAC z4)] cv70 cv71 fun a=>Ir z0 z1 z2 z3 z4 a.1 a.2) WY NZ Ja Xf Ag)
noncomputable def Y1 {γ:Type} (F:Ll):Hd ctx γ:=hdl cv70.dec (fun a=>F a.1 a.2) cv71.enc
abbrev Md:=SDisk→(List SAct)→Option (SDisk×Int)
inductive Bg where
 | c0 (list_1:(List SAct)) (i_7:Int) (v_4r0:(List SFile)) (out_6r0:(List SFile))
noncomputable def U2:Bg→LI
 | .c0 list_1 i_7 v_4r0 out_6r0=>(tdo Tryz.f12 464,[(1,[.one (.rsl 34 list_1)]),(4,[.one (.ptr 256 0)]),(6,[.one (.ptr 384 0)]),(7,[.one (.int .i64 i_7)])],[(256,.var [.own 1016384]),(384,.var [.own 1024576]),(1016384,.sl 81 v_4r0),(1024576,.sl 81 out_6r0)])
noncomputable def Jr (z0:Ll) (k:Bg→Option (SDisk×Int)) (d_0:SDisk) (list_1:(List SAct)):Option (SDisk×Int):=
 bif (decide (((0+d_0.fFiles.length)*40)≤140737488355328)) then
 k (.c0 list_1 0 [] ([]++d_0.fFiles))
 else none
noncomputable def Nl (z0:Ll) (k:Bg→Option (SDisk×Int)):Bg→Option (SDisk×Int)
 | .c0 list_1 i_7 v_4r0 out_6r0=>
 bif (decide (i_7<(list_1.length:Int))) then
  bif ((decide (0≤i_7)) && (decide (i_7<(list_1.length:Int)))) then
  (z0 ⟨out_6r0⟩ (list_1.getD i_7.toNat (⟨0,⟨#[]⟩,⟨#[]⟩,⟨#[]⟩⟩:SAct))).bind fun r0=>
  bif (!r0.2) then
  some (⟨out_6r0⟩,i_7)
  else
  k (.c0 list_1 (w64 (i_7+1)) v_4r0 r0.1.fFiles)
  else none
 else
  some (⟨out_6r0⟩,(list_1.length:Int))
noncomputable def Fg:Nat→Bg→Option (SDisk×Int)
 | 0,_=>none
 | m+1,s=>Nl Va (Fg m) s
noncomputable def EZ:Md:=Jr Va (Fg gas)
theorem Iw:Tells ctx PP 12 cv72 cv73 (fun a=>EZ a.1 a.2):=
 have b:∀ z0,CutIs ctx PP 12 Tryz.f12 [] [(36,Y1 z0)] cv73 U2 (Nl z0):=fun z0 _ s=>by cases s <;> kernel_rfl
 have e:∀ z0,EntryIs ctx PP 12 [] [(36,Y1 z0)] cv72 cv73 U2 (fun k a=>Jr z0 k a.1 a.2):=fun z0 _ a=>by kernel_rfl
 fn_ok (hc GAC hl_nil) Tryz.func12 (fun s s' h=>by cases s;cases s';cases h;rfl) (fun _=>rfl) (fun _ _=>rfl) (b Va) (e Va) gas
noncomputable def Po {γ:Type} (F:Md):Hd ctx γ:=hdl cv72.dec (fun a=>F a.1 a.2) cv73.enc
abbrev Ol:=SDisk→ByteArray→Option Int
inductive Gg where
 | c0 (name_1:ByteArray) (v_8:(List SFile)) (v_9:Int) (v_10:Int)
noncomputable def Y2:Gg→LI
 | .c0 name_1 v_8 v_9 v_10=>(tdo Tryz.f41 104,[(1,[.one (.str name_1)]),(8,[.one (.rsl 81 v_8)]),(9,[.one (.int .i64 v_9)]),(10,[.one (.int .i64 v_10)])],[])
noncomputable def Kr (k:Gg→Option Int) (d_0:SDisk) (name_1:ByteArray):Option Int:=
 k (.c0 name_1 d_0.fFiles (d_0.fFiles.length:Int) 0)
noncomputable def Ql (k:Gg→Option Int):Gg→Option Int
 | .c0 name_1 v_8 v_9 v_10=>
 bif (decide (v_10<v_9)) then
  bif ((decide (0≤v_10)) && (decide (v_10<(v_8.length:Int)))) then
  bif ((ByteArray.toList (v_8.getD v_10.toNat (⟨⟨#[]⟩,⟨#[]⟩,0⟩:SFile)).fName) == (ByteArray.toList name_1)) then
  some v_10
  else
  k (.c0 name_1 v_8 v_9 (w64 (v_10+1)))
  else none
 else
  some (-(1:Int))
noncomputable def Hg:Nat→Gg→Option Int
 | 0,_=>none
 | m+1,s=>Ql (Hg m) s
noncomputable def Xa:Ol:=Kr (Hg gas)
theorem J3:Tells ctx PP 41 cv67 cv27 (fun a=>Xa a.1 a.2):=
 have b:CutIs ctx PP 41 Tryz.f41 [] [] cv27 Y2 (Ql):=fun _ s=>by cases s <;> kernel_rfl
 have e:EntryIs ctx PP 41 [] [] cv67 cv27 Y2 (fun k a=>Kr k a.1 a.2):=fun _ a=>by kernel_rfl
 fn_ok hl_nil Tryz.func41 (fun s s' h=>by cases s;cases s';cases h;rfl) (fun _=>rfl) (fun _ _=>rfl) b e gas
noncomputable def O3 {γ:Type} (F:Ol):Hd ctx γ:=hdl cv67.dec (fun a=>F a.1 a.2) cv27.enc
abbrev Lr:=SDisk→ByteArray→Option (ByteArray×Bool)
noncomputable def Nr (z0:Ol) (d_0:SDisk) (name_1:ByteArray):Option (ByteArray×Bool):=
 (z0 d_0 name_1).bind fun r0=>
 bif (decide (r0<0)) then
 some (⟨#[]⟩,false)
 else
 bif ((decide (0≤r0)) && (decide (r0<(d_0.fFiles.length:Int)))) then
 some ((d_0.fFiles.getD r0.toNat (⟨⟨#[]⟩,⟨#[]⟩,0⟩:SFile)).fText,true)
 else none
noncomputable def Ig:Lr:=Nr Xa
theorem HAC:Tells ctx PP 37 cv67 cv30 (fun a=>Ig a.1 a.2):=fn_ok0 (hc J3 hl_nil) Tryz.func37 ((fun z0 a=>by kernel_rfl:∀ z0,EntryIs0 ctx PP 37 [] [(41,O3 z0)] cv67 cv30 fun a=>Nr z0 a.1 a.2) Xa)
noncomputable def IAC {γ:Type} (F:Lr):Hd ctx γ:=hdl cv67.dec (fun a=>F a.1 a.2) cv30.enc
abbrev OY:=Int→Int→Int→Option Bool
noncomputable def U3 (n_0:Int) (low_1:Int) (high_2:Int):Option Bool:=
 bif (decide (n_0≥low_1)) then
 some (decide (n_0≤high_2))
 else
 some false
noncomputable def impl_in:OY:=U3
theorem IZ:Tells ctx PP 45 cv8 cv1 (fun a=>impl_in a.1 a.2.1 a.2.2):=fn_ok0 hl_nil Tryz.func45 (fun a=>by kernel_rfl:EntryIs0 ctx PP 45 [] [] cv8 cv1 fun a=>U3 a.1 a.2.1 a.2.2)
noncomputable def UY {γ:Type} (F:OY):Hd ctx γ:=hdl cv8.dec (fun a=>F a.1 a.2.1 a.2.2) cv1.enc
abbrev Ya:=ByteArray→Int→Option (Int×Int×Bool)
inductive Jg where
 | c0 (text_0:ByteArray) (at_1:Int) (n_7:Int) (k_8:Int)
noncomputable def V3:Jg→LI
 | .c0 text_0 at_1 n_7 k_8=>(tdo Tryz.f60 976,[(0,[.one (.str text_0)]),(1,[.one (.int .i64 at_1)]),(7,[.one (.int .i64 n_7)]),(8,[.one (.int .i64 k_8)])],[])
noncomputable def E_impl_ReadVar (z0:OY) (k:Jg→Option (Int×Int×Bool)) (text_0:ByteArray) (at_1:Int):Option (Int×Int×Bool):=
 (z0 at_1 0 (text_0.size:Int)).bind fun r0=>
 bif (!r0) then
 some (0,(0,false))
 else
 k (.c0 text_0 at_1 0 0)
noncomputable def B_impl_ReadVar (z0:OY) (k:Jg→Option (Int×Int×Bool)):Jg→Option (Int×Int×Bool)
 | .c0 text_0 at_1 n_7 k_8=>
 bif (decide (k_8<5)) then
  bif (decide ((w64 (at_1+k_8))<(text_0.size:Int))) then
  bif ((decide (0≤(w64 (at_1+k_8)))) && (decide ((w64 (at_1+k_8))<(text_0.size:Int)))) then
  bif (decide (0≤(w64 (7*k_8)))) then
  bif (decide ((w64 (bt text_0 (w64 (at_1+k_8))))<128)) then
   bif ((w64 (bt text_0 (w64 (at_1+k_8)))) == 0) then
   bif (decide (k_8 > 0)) then
    some (0,(0,false))
   else
    bif (decide ((w64 (n_7+(w64 (((w64 (bt text_0 (w64 (at_1+k_8)))).tmod 128)*(2 ^ (Min.min (w64 (7*k_8)).toNat (IntKind.bits IntKind.i64))))))) > 1000000000)) then
    some (0,(0,false))
    else
    some ((w64 (n_7+(w64 (((w64 (bt text_0 (w64 (at_1+k_8)))).tmod 128)*(2 ^ (Min.min (w64 (7*k_8)).toNat (IntKind.bits IntKind.i64))))))),((w64 ((w64 (at_1+k_8))+1)),true))
   else
   bif (decide ((w64 (n_7+(w64 (((w64 (bt text_0 (w64 (at_1+k_8)))).tmod 128)*(2 ^ (Min.min (w64 (7*k_8)).toNat (IntKind.bits IntKind.i64))))))) > 1000000000)) then
    some (0,(0,false))
   else
    some ((w64 (n_7+(w64 (((w64 (bt text_0 (w64 (at_1+k_8)))).tmod 128)*(2 ^ (Min.min (w64 (7*k_8)).toNat (IntKind.bits IntKind.i64))))))),((w64 ((w64 (at_1+k_8))+1)),true))
  else
   k (.c0 text_0 at_1 (w64 (n_7+(w64 (((w64 (bt text_0 (w64 (at_1+k_8)))).tmod 128)*(2 ^ (Min.min (w64 (7*k_8)).toNat (IntKind.bits IntKind.i64))))))) (w64 (k_8+1)))
  else none
  else none
  else
  some (0,(0,false))
 else
  some (0,(0,false))
noncomputable def L_impl_ReadVar:Nat→Jg→Option (Int×Int×Bool)
 | 0,_=>none
 | m+1,s=>B_impl_ReadVar impl_in (L_impl_ReadVar m) s
noncomputable def impl_ReadVar:Ya:=E_impl_ReadVar impl_in (L_impl_ReadVar gas)
theorem Rl:Tells ctx PP 60 cv9 cv49 (fun a=>impl_ReadVar a.1 a.2):=
 have b:∀ z0,CutIs ctx PP 60 Tryz.f60 [] [(45,UY z0)] cv49 V3 (B_impl_ReadVar z0):=fun z0 _ s=>by cases s <;> kernel_rfl
 have e:∀ z0,EntryIs ctx PP 60 [] [(45,UY z0)] cv9 cv49 V3 (fun k a=>E_impl_ReadVar z0 k a.1 a.2):=fun z0 _ a=>by kernel_rfl
 fn_ok (hc IZ hl_nil) Tryz.func60 (fun s s' h=>by cases s;cases s';cases h;rfl) (fun _=>rfl) (fun _ _=>rfl) (b impl_in) (e impl_in) gas
noncomputable def Og {γ:Type} (F:Ya):Hd ctx γ:=hdl cv9.dec (fun a=>F a.1 a.2) cv49.enc
abbrev Qr:=Int→ByteArray→Option Int
inductive Pg where
 | c0 (sum_0:Int) (text_1:ByteArray) (i_5:Int)
 | c1 (sum_0:Int) (text_1:ByteArray) (i_5:Int) (v_19:Int)
noncomputable def X3:Pg→LI
 | .c0 sum_0 text_1 i_5=>(tdo Tryz.f100 208,[(0,[.one (.int .u32 sum_0)]),(1,[.one (.str text_1)]),(5,[.one (.int .i64 i_5)])],[])
 | .c1 sum_0 text_1 i_5 v_19=>(tdo Tryz.f100 13464,[(0,[.one (.int .u32 sum_0)]),(1,[.one (.str text_1)]),(5,[.one (.int .i64 i_5)]),(19,[.one (.int .i64 v_19)])],[])
noncomputable def E_impl_SumMore (k:Pg→Option Int) (sum_0:Int) (text_1:ByteArray):Option Int:=
 k (.c0 sum_0 text_1 0)
noncomputable def B_impl_SumMore (k:Pg→Option Int):Pg→Option Int
 | .c0 sum_0 text_1 i_5=>
 bif (decide (i_5<(text_1.size:Int))) then
  bif ((decide (0≤i_5)) && (decide (i_5<(text_1.size:Int)))) then
  k (.c1 (w32 (((BitVec.toNat ((BitVec.ofInt (IntKind.bits IntKind.u32) sum_0) ^^^ (BitVec.ofInt (IntKind.bits IntKind.u32) (w32 (bt text_1 i_5))))):Nat):Int)) text_1 i_5 0)
  else none
 else
  some sum_0
 | .c1 sum_0 text_1 i_5 v_19=>
 bif (decide (v_19<8)) then
  bif ((w32 (((BitVec.toNat ((BitVec.ofInt (IntKind.bits IntKind.u32) sum_0) &&& (BitVec.ofInt (IntKind.bits IntKind.u32) 1))):Nat):Int)) == 1) then
  k (.c1 (w32 (((BitVec.toNat ((BitVec.ofInt (IntKind.bits IntKind.u32) (Int.fdiv sum_0 (2 ^ (Min.min (1:Int).toNat (IntKind.bits IntKind.u32))))) ^^^ (BitVec.ofInt (IntKind.bits IntKind.u32) 3558460437))):Nat):Int)) text_1 i_5 (w64 (v_19+1)))
  else
  k (.c1 (Int.fdiv sum_0 (2 ^ (Min.min (1:Int).toNat (IntKind.bits IntKind.u32)))) text_1 i_5 (w64 (v_19+1)))
 else
  k (.c0 sum_0 text_1 (w64 (i_5+1)))
noncomputable def L_impl_SumMore:Nat→Pg→Option Int
 | 0,_=>none
 | m+1,s=>B_impl_SumMore (L_impl_SumMore m) s
noncomputable def impl_SumMore:Qr:=E_impl_SumMore (L_impl_SumMore gas)
theorem JAC:Tells ctx PP 100 cv46 cv10 (fun a=>impl_SumMore a.1 a.2):=
 have b:CutIs ctx PP 100 Tryz.f100 [] [] cv10 X3 (B_impl_SumMore):=fun _ s=>by cases s <;> kernel_rfl
 have e:EntryIs ctx PP 100 [] [] cv46 cv10 X3 (fun k a=>E_impl_SumMore k a.1 a.2):=fun _ a=>by kernel_rfl
 fn_ok hl_nil Tryz.func100 (fun s s' h=>by cases s <;> cases s' <;> first | (cases h;done) | (cases h;rfl) | exact (rg_ne h (by kernel_rfl)).elim) (fun _=>rfl) (fun _ _=>rfl) b e gas
noncomputable def KAC {γ:Type} (F:Qr):Hd ctx γ:=hdl cv46.dec (fun a=>F a.1 a.2) cv10.enc
abbrev Qg:=ByteArray→Option Int
noncomputable def E_impl_SumOf (z0:Qr) (text_0:ByteArray):Option Int:=
 (z0 4294967295 text_0).bind fun r0=>
 some r0
noncomputable def impl_SumOf:Qg:=E_impl_SumOf impl_SumMore
theorem Y3:Tells ctx PP 62 cv6 cv10 (fun a=>impl_SumOf a):=fn_ok0 (hc JAC hl_nil) Tryz.func62 ((fun z0 a=>by kernel_rfl:∀ z0,EntryIs0 ctx PP 62 [] [(100,KAC z0)] cv6 cv10 fun a=>E_impl_SumOf z0 a) impl_SumMore)
noncomputable def Sr {γ:Type} (F:Qg):Hd ctx γ:=hdl cv6.dec (fun a=>F a) cv10.enc
abbrev WZ:=Int→Option ByteArray
noncomputable def E_impl_fourBytes (n_0:Int):Option ByteArray:=
 some (ofBytes [(w8 (Int.fdiv n_0 (2 ^ (Min.min (24:Int).toNat (IntKind.bits IntKind.u32))))),(w8 (Int.fdiv n_0 (2 ^ (Min.min (16:Int).toNat (IntKind.bits IntKind.u32))))),(w8 (Int.fdiv n_0 (2 ^ (Min.min (8:Int).toNat (IntKind.bits IntKind.u32))))),(w8 n_0)])
noncomputable def impl_fourBytes:WZ:=E_impl_fourBytes
theorem Sl:Tells ctx PP 61 cv10 cv6 (fun a=>impl_fourBytes a):=fn_ok0 hl_nil Tryz.func61 (fun a=>by kernel_rfl:EntryIs0 ctx PP 61 [] [] cv10 cv6 fun a=>E_impl_fourBytes a)
noncomputable def Zb {γ:Type} (F:WZ):Hd ctx γ:=hdl cv10.dec (fun a=>F a) cv6.enc
abbrev Ul:=ByteArray→Option ((List ByteArray)×Int)
inductive Ug where
 | c0 (file_0:ByteArray) (at_5:Int) (out_4:(List ByteArray))
noncomputable def I4:Ug→LI
 | .c0 file_0 at_5 out_4=>(tdo Tryz.f27 496,[(0,[.one (.str file_0)]),(4,[.one (.own 304)]),(5,[.one (.int .i64 at_5)])],[(304,.sl 9 out_4)])
noncomputable def E_impl_Unframe (z0:Ya) (z1:OY) (z2:Qg) (z3:WZ) (k:Ug→Option ((List ByteArray)×Int)) (file_0:ByteArray):Option ((List ByteArray)×Int):=
 bif (decide ((file_0.size:Int) > 20000)) then
 some ([],0)
 else
 k (.c0 file_0 0 [])
noncomputable def B_impl_Unframe (z0:Ya) (z1:OY) (z2:Qg) (z3:WZ) (k:Ug→Option ((List ByteArray)×Int)):Ug→Option ((List ByteArray)×Int)
 | .c0 file_0 at_5 out_4=>
 (z0 file_0 at_5).bind fun r0=>
 bif (!r0.2.2) then
  some (out_4,at_5)
 else
  (z1 r0.1 1 9000).bind fun r1=>
  bif (!r1) then
  some (out_4,at_5)
  else
  bif (decide (r0.1 > (w64 ((w64 ((file_0.size:Int) - r0.2.1)) - 4)))) then
   some (out_4,at_5)
  else
   bif (((decide (0≤(w64 (r0.2.1+4)))) && (decide ((w64 (r0.2.1+4))≤(w64 ((w64 (r0.2.1+4))+r0.1))))) && (decide ((w64 ((w64 (r0.2.1+4))+r0.1))≤(file_0.size:Int)))) then
   bif (((decide (0≤r0.2.1)) && (decide (r0.2.1≤(w64 (r0.2.1+4))))) && (decide ((w64 (r0.2.1+4))≤(file_0.size:Int)))) then
   (z2 (file_0.extract (w64 (r0.2.1+4)).toNat (w64 ((w64 (r0.2.1+4))+r0.1)).toNat)).bind fun r2=>
   (z3 r2).bind fun r3=>
   bif (!((ByteArray.toList (file_0.extract r0.2.1.toNat (w64 (r0.2.1+4)).toNat)) == (ByteArray.toList r3))) then
   some (out_4,at_5)
   else
   bif (decide (((out_4.length+1)*16)≤140737488355328)) then
   k (.c0 file_0 (w64 ((w64 (r0.2.1+4))+r0.1)) (out_4++[(file_0.extract (w64 (r0.2.1+4)).toNat (w64 ((w64 (r0.2.1+4))+r0.1)).toNat)]))
   else none
   else none
   else none
noncomputable def L_impl_Unframe:Nat→Ug→Option ((List ByteArray)×Int)
 | 0,_=>none
 | m+1,s=>B_impl_Unframe impl_ReadVar impl_in impl_SumOf impl_fourBytes (L_impl_Unframe m) s
noncomputable def impl_Unframe:Ul:=E_impl_Unframe impl_ReadVar impl_in impl_SumOf impl_fourBytes (L_impl_Unframe gas)
theorem LAC:Tells ctx PP 27 cv6 cv50 (fun a=>impl_Unframe a):=
 have b:∀ z0 z1 z2 z3,CutIs ctx PP 27 Tryz.f27 [] [(60,Og z0),(45,UY z1),(62,Sr z2),(61,Zb z3)] cv50 I4 (B_impl_Unframe z0 z1 z2 z3):=fun z0 z1 z2 z3 _ s=>by cases s <;> kernel_rfl
 have e:∀ z0 z1 z2 z3,EntryIs ctx PP 27 [] [(60,Og z0),(45,UY z1),(62,Sr z2),(61,Zb z3)] cv6 cv50 I4 (fun k a=>E_impl_Unframe z0 z1 z2 z3 k a):=fun z0 z1 z2 z3 _ a=>by kernel_rfl
 fn_ok (hc Rl (hc IZ (hc Y3 (hc Sl hl_nil)))) Tryz.func27 (fun s s' h=>by cases s;cases s';cases h;rfl) (fun _=>rfl) (fun _ _=>rfl) (b impl_ReadVar impl_in impl_SumOf impl_fourBytes) (e impl_ReadVar impl_in impl_SumOf impl_fourBytes) gas
noncomputable def J4 {γ:Type} (F:Ul):Hd ctx γ:=hdl cv6.dec (fun a=>F a) cv50.enc
abbrev XZ:=Int→Option ByteArray
inductive Vg where
 | c0 (n_0:Int) (out_3:(List Int))
noncomputable def O4:Vg→LI
 | .c0 n_0 out_3=>(tdo Tryz.f67 224,[(0,[.one (.int .i64 n_0)]),(3,[.one (.own 240)])],[(240,.sl 5 out_3)])
noncomputable def U4 (k:Vg→Option ByteArray) (n_0:Int):Option ByteArray:=
 k (.c0 n_0 [])
noncomputable def B_impl_varText (k:Vg→Option ByteArray):Vg→Option ByteArray
 | .c0 n_0 out_3=>
 bif (decide (n_0 > 127)) then
  bif (decide (((out_3.length+1)*1)≤140737488355328)) then
  k (.c0 (w64 (n_0.tdiv 128)) (out_3++[(w8 (w64 (128+(n_0.tmod 128))))]))
  else none
 else
  bif (decide (((out_3.length+1)*1)≤140737488355328)) then
  some (ofBytes (out_3++[(w8 n_0)]))
  else none
noncomputable def L_impl_varText:Nat→Vg→Option ByteArray
 | 0,_=>none
 | m+1,s=>B_impl_varText (L_impl_varText m) s
noncomputable def impl_varText:XZ:=U4 (L_impl_varText gas)
theorem Ac:Tells ctx PP 67 cv27 cv6 (fun a=>impl_varText a):=
 have b:CutIs ctx PP 67 Tryz.f67 [] [] cv6 O4 (B_impl_varText):=fun _ s=>by cases s <;> kernel_rfl
 have e:EntryIs ctx PP 67 [] [] cv27 cv6 O4 (fun k a=>U4 k a):=fun _ a=>by kernel_rfl
 fn_ok hl_nil Tryz.func67 (fun s s' h=>by cases s;cases s';cases h;rfl) (fun _=>rfl) (fun _ _=>rfl) b e gas
noncomputable def Bc {γ:Type} (F:XZ):Hd ctx γ:=hdl cv27.dec (fun a=>F a) cv6.enc
abbrev Vl:=Int→Option (ByteArray×Bool)
noncomputable def E_impl_VarText (z0:OY) (z1:XZ) (n_0:Int):Option (ByteArray×Bool):=
 (z0 n_0 0 1000000000).bind fun r0=>
 bif (!r0) then
 some (⟨#[]⟩,false)
 else
 (z1 n_0).bind fun r1=>
 some (r1,true)
noncomputable def impl_VarText:Vl:=E_impl_VarText impl_in impl_varText
theorem NAC:Tells ctx PP 101 cv27 cv30 (fun a=>impl_VarText a):=fn_ok0 (hc IZ (hc Ac hl_nil)) Tryz.func101 ((fun z0 z1 a=>by kernel_rfl:∀ z0 z1,EntryIs0 ctx PP 101 [] [(45,UY z0),(67,Bc z1)] cv27 cv30 fun a=>E_impl_VarText z0 z1 a) impl_in impl_varText)
noncomputable def V4 {γ:Type} (F:Vl):Hd ctx γ:=hdl cv27.dec (fun a=>F a) cv30.enc
abbrev Cc:=Int→Option ByteArray
noncomputable def E_impl_oneByte (n_0:Int):Option ByteArray:=
 some (ofBytes [(w8 n_0)])
noncomputable def impl_oneByte:Cc:=E_impl_oneByte
theorem Ur:Tells ctx PP 85 cv27 cv6 (fun a=>impl_oneByte a):=fn_ok0 hl_nil Tryz.func85 (fun a=>by kernel_rfl:EntryIs0 ctx PP 85 [] [] cv27 cv6 fun a=>E_impl_oneByte a)
noncomputable def Wl {γ:Type} (F:Cc):Hd ctx γ:=hdl cv27.dec (fun a=>F a) cv6.enc
abbrev Vr:=Option (List Int)
noncomputable def X4  : Option (List Int):=
 some [1779033703,3144134277,1013904242,2773480762,1359893119,2600822924,528734635,1541459225]
noncomputable def impl_firstState:Vr:=X4
theorem OAC:Tells ctx PP 110 cv3 cv51 (fun _=>impl_firstState):=fn_ok0 hl_nil Tryz.func110 (fun _=>by kernel_rfl:EntryIs0 ctx PP 110 [] [] cv3 cv51 fun _=>X4)
noncomputable def PAC {γ:Type} (F:Vr):Hd ctx γ:=hdl cv3.dec (fun _=>F) cv51.enc
abbrev Xg:=Int→Option ByteArray
noncomputable def E_impl_zeros (n_0:Int):Option ByteArray:=
 bif ((((decide (0≤n_0)) && (decide (n_0≤n_0))) && (decide (n_0≤9223372036854775807))) && (decide ((n_0.toNat*1)≤140737488355328))) then
 some (ofBytes (List.replicate n_0.toNat (0:Int)))
 else none
noncomputable def impl_zeros:Xg:=E_impl_zeros
theorem Xr:Tells ctx PP 80 cv27 cv6 (fun a=>impl_zeros a):=fn_ok0 hl_nil Tryz.func80 (fun a=>by kernel_rfl:EntryIs0 ctx PP 80 [] [] cv27 cv6 fun a=>E_impl_zeros a)
noncomputable def Yr {γ:Type} (F:Xg):Hd ctx γ:=hdl cv27.dec (fun a=>F a) cv6.enc
abbrev Zr:=Int→Option ByteArray
noncomputable def E_impl_eightBytes (z0:WZ) (n_0:Int):Option ByteArray:=
 (z0 (w32 (Int.fdiv n_0 (2 ^ (Min.min (32:Int).toNat (IntKind.bits IntKind.i64)))))).bind fun r0=>
 (z0 (w32 n_0)).bind fun r1=>
 bif (decide ((r0.size+r1.size)≤9223372036854775807)) then
 some (r0++r1)
 else none
noncomputable def impl_eightBytes:Zr:=E_impl_eightBytes impl_fourBytes
theorem QAC:Tells ctx PP 128 cv27 cv6 (fun a=>impl_eightBytes a):=fn_ok0 (hc Sl hl_nil) Tryz.func128 ((fun z0 a=>by kernel_rfl:∀ z0,EntryIs0 ctx PP 128 [] [(61,Zb z0)] cv27 cv6 fun a=>E_impl_eightBytes z0 a) impl_fourBytes)
noncomputable def RAC {γ:Type} (F:Zr):Hd ctx γ:=hdl cv27.dec (fun a=>F a) cv6.enc
abbrev Es:=Int→Option ByteArray
noncomputable def E_impl_ending (z0:Xg) (z1:Zr) (count_0:Int):Option ByteArray:=
 (z0 ((w64 (119 - (count_0.tmod 64))).tmod 64)).bind fun r0=>
 bif (decide (((⟨#[128]⟩:ByteArray).size+r0.size)≤9223372036854775807)) then
 (z1 (w64 (8*count_0))).bind fun r1=>
 bif (decide ((((⟨#[128]⟩:ByteArray)++r0).size+r1.size)≤9223372036854775807)) then
 some (((⟨#[128]⟩:ByteArray)++r0)++r1)
 else none
 else none
noncomputable def impl_ending:Es:=E_impl_ending impl_zeros impl_eightBytes
theorem SAC:Tells ctx PP 111 cv27 cv6 (fun a=>impl_ending a):=fn_ok0 (hc Xr (hc QAC hl_nil)) Tryz.func111 ((fun z0 z1 a=>by kernel_rfl:∀ z0 z1,EntryIs0 ctx PP 111 [] [(80,Yr z0),(128,RAC z1)] cv27 cv6 fun a=>E_impl_ending z0 z1 a) impl_zeros impl_eightBytes)
noncomputable def UAC {γ:Type} (F:Es):Hd ctx γ:=hdl cv27.dec (fun a=>F a) cv6.enc
abbrev Gs:=Int→Int→Option Int
noncomputable def E_math_bits_RotateLeft32 (x_0:Int) (k_1:Int):Option Int:=
 bif (decide (0≤(wu64 (32 - (wu64 (((BitVec.toNat ((BitVec.ofInt (IntKind.bits IntKind.u64) (wu64 k_1)) &&& (BitVec.ofInt (IntKind.bits IntKind.u64) 31))):Nat):Int)))))) then
 some (w32 (((BitVec.toNat ((BitVec.ofInt (IntKind.bits IntKind.u32) (w32 (x_0*(2 ^ (Min.min (wu64 (((BitVec.toNat ((BitVec.ofInt (IntKind.bits IntKind.u64) (wu64 k_1)) &&& (BitVec.ofInt (IntKind.bits IntKind.u64) 31))):Nat):Int)).toNat (IntKind.bits IntKind.u32)))))) ||| (BitVec.ofInt (IntKind.bits IntKind.u32) (Int.fdiv x_0 (2 ^ (Min.min (wu64 (32 - (wu64 (((BitVec.toNat ((BitVec.ofInt (IntKind.bits IntKind.u64) (wu64 k_1)) &&& (BitVec.ofInt (IntKind.bits IntKind.u64) 31))):Nat):Int)))).toNat (IntKind.bits IntKind.u32))))))):Nat):Int))
 else none
noncomputable def math_bits_RotateLeft32:Gs:=E_math_bits_RotateLeft32
theorem VAC:Tells ctx PP 134 cv52 cv10 (fun a=>math_bits_RotateLeft32 a.1 a.2):=fn_ok0 hl_nil Tryz.func134 (fun a=>by kernel_rfl:EntryIs0 ctx PP 134 [] [] cv52 cv10 fun a=>E_math_bits_RotateLeft32 a.1 a.2)
noncomputable def WAC {γ:Type} (F:Gs):Hd ctx γ:=hdl cv52.dec (fun a=>F a.1 a.2) cv10.enc
abbrev Dc:=Int→Int→Option Int
noncomputable def E_impl_right (z0:Gs) (x_0:Int) (n_1:Int):Option Int:=
 (z0 x_0 (w64 (0 - n_1))).bind fun r0=>
 some r0
noncomputable def impl_right:Dc:=E_impl_right math_bits_RotateLeft32
theorem Y4:Tells ctx PP 132 cv52 cv10 (fun a=>impl_right a.1 a.2):=fn_ok0 (hc VAC hl_nil) Tryz.func132 ((fun z0 a=>by kernel_rfl:∀ z0,EntryIs0 ctx PP 132 [] [(134,WAC z0)] cv52 cv10 fun a=>E_impl_right z0 a.1 a.2) math_bits_RotateLeft32)
noncomputable def Xl {γ:Type} (F:Dc):Hd ctx γ:=hdl cv52.dec (fun a=>F a.1 a.2) cv10.enc
abbrev Yl:=ByteArray→Option (List Int)
inductive Yg where
 | c0 (block_0:ByteArray) (v_11:Int) (v_2r0:(List Int)) (w_3r0:(List Int))
 | c1 (block_0:ByteArray) (i_4:Int) (v_11:Int) (v_14:Int) (v_2r0:(List Int)) (w_3r0:(List Int))
 | c2 (t_6:Int) (v_2r0:(List Int)) (w_3r0:(List Int))
noncomputable def Z4:Yg→LI
 | .c0 block_0 v_11 v_2r0 w_3r0=>(tdo Tryz.f131 232,[(0,[.one (.str block_0)]),(2,[.one (.ptr 128 0)]),(3,[.one (.ptr 192 0)]),(11,[.one (.int .i64 v_11)])],[(128,.ar 92 v_2r0),(192,.ar 92 w_3r0)])
 | .c1 block_0 i_4 v_11 v_14 v_2r0 w_3r0=>(tdo Tryz.f131 59800,[(0,[.one (.str block_0)]),(2,[.one (.ptr 128 0)]),(3,[.one (.ptr 192 0)]),(4,[.one (.int .i64 i_4)]),(11,[.one (.int .i64 v_11)]),(14,[.one (.int .i64 v_14)])],[(128,.ar 92 v_2r0),(192,.ar 92 w_3r0)])
 | .c2 t_6 v_2r0 w_3r0=>(tdo Tryz.f131 976,[(2,[.one (.ptr 128 0)]),(3,[.one (.ptr 192 0)]),(6,[.one (.int .i64 t_6)])],[(128,.ar 92 v_2r0),(192,.ar 92 w_3r0)])
noncomputable def E_impl_wordsOf (z0:Dc) (k:Yg→Option (List Int)) (block_0:ByteArray):Option (List Int):=
 k (.c0 block_0 0 (List.replicate 64 (0:Int)) (List.replicate 64 (0:Int)))
noncomputable def B_impl_wordsOf (z0:Dc) (k:Yg→Option (List Int)):Yg→Option (List Int)
 | .c0 block_0 v_11 v_2r0 w_3r0=>
 bif (decide (v_11<16)) then
  k (.c1 block_0 v_11 v_11 0 v_2r0 w_3r0)
 else
  k (.c2 16 v_2r0 w_3r0)
 | .c1 block_0 i_4 v_11 v_14 v_2r0 w_3r0=>
 bif (decide (v_14<4)) then
  bif (Nat.beq 64 w_3r0.length) then
  bif ((decide (0≤i_4)) && (decide (i_4<(w_3r0.length:Int)))) then
  bif ((decide (0≤(w64 ((w64 (4*i_4))+v_14)))) && (decide ((w64 ((w64 (4*i_4))+v_14))<(block_0.size:Int)))) then
  bif (Nat.beq 64 w_3r0.length) then
  bif ((decide (0≤i_4)) && (decide (i_4<(w_3r0.length:Int)))) then
  k (.c1 block_0 i_4 v_11 (w64 (v_14+1)) v_2r0 (w_3r0.set i_4.toNat (w32 (((BitVec.toNat ((BitVec.ofInt (IntKind.bits IntKind.u32) (w32 ((w_3r0.getD i_4.toNat 0)*(2 ^ (Min.min (8:Int).toNat (IntKind.bits IntKind.u32)))))) ||| (BitVec.ofInt (IntKind.bits IntKind.u32) (w32 (bt block_0 (w64 ((w64 (4*i_4))+v_14))))))):Nat):Int))))
  else none
  else none
  else none
  else none
  else none
 else
  k (.c0 block_0 (w64 (v_11+1)) v_2r0 w_3r0)
 | .c2 t_6 v_2r0 w_3r0=>
 bif (decide (t_6<64)) then
  bif (Nat.beq 64 w_3r0.length) then
  bif ((decide (0≤(w64 (t_6 - 15)))) && (decide ((w64 (t_6 - 15))<(w_3r0.length:Int)))) then
  bif (Nat.beq 64 w_3r0.length) then
  bif ((decide (0≤(w64 (t_6 - 2)))) && (decide ((w64 (t_6 - 2))<(w_3r0.length:Int)))) then
  (z0 (w_3r0.getD (w64 (t_6 - 15)).toNat 0) 7).bind fun r0=>
  (z0 (w_3r0.getD (w64 (t_6 - 15)).toNat 0) 18).bind fun r1=>
  (z0 (w_3r0.getD (w64 (t_6 - 2)).toNat 0) 17).bind fun r2=>
  (z0 (w_3r0.getD (w64 (t_6 - 2)).toNat 0) 19).bind fun r3=>
  bif (Nat.beq 64 w_3r0.length) then
  bif ((decide (0≤(w64 (t_6 - 7)))) && (decide ((w64 (t_6 - 7))<(w_3r0.length:Int)))) then
  bif (Nat.beq 64 w_3r0.length) then
  bif ((decide (0≤(w64 (t_6 - 16)))) && (decide ((w64 (t_6 - 16))<(w_3r0.length:Int)))) then
  bif (Nat.beq 64 w_3r0.length) then
  bif ((decide (0≤t_6)) && (decide (t_6<(w_3r0.length:Int)))) then
  k (.c2 (w64 (t_6+1)) v_2r0 (w_3r0.set t_6.toNat (w32 ((w32 ((w32 ((w32 (((BitVec.toNat ((BitVec.ofInt (IntKind.bits IntKind.u32) (w32 (((BitVec.toNat ((BitVec.ofInt (IntKind.bits IntKind.u32) r2) ^^^ (BitVec.ofInt (IntKind.bits IntKind.u32) r3))):Nat):Int))) ^^^ (BitVec.ofInt (IntKind.bits IntKind.u32) (Int.fdiv (w_3r0.getD (w64 (t_6 - 2)).toNat 0) (2 ^ (Min.min (10:Int).toNat (IntKind.bits IntKind.u32))))))):Nat):Int))+(w_3r0.getD (w64 (t_6 - 7)).toNat 0)))+(w32 (((BitVec.toNat ((BitVec.ofInt (IntKind.bits IntKind.u32) (w32 (((BitVec.toNat ((BitVec.ofInt (IntKind.bits IntKind.u32) r0) ^^^ (BitVec.ofInt (IntKind.bits IntKind.u32) r1))):Nat):Int))) ^^^ (BitVec.ofInt (IntKind.bits IntKind.u32) (Int.fdiv (w_3r0.getD (w64 (t_6 - 15)).toNat 0) (2 ^ (Min.min (3:Int).toNat (IntKind.bits IntKind.u32))))))):Nat):Int))))+(w_3r0.getD (w64 (t_6 - 16)).toNat 0)))))
  else none
  else none
  else none
  else none
  else none
  else none
  else none
  else none
  else none
  else none
 else
  bif (Nat.beq 64 w_3r0.length) then
  bif ((Nat.beq w_3r0.length v_2r0.length) && (Nat.beq 64 w_3r0.length)) then
  bif ((Nat.beq 64 w_3r0.length) && true) then
  some w_3r0
  else none
  else none
  else none
noncomputable def L_impl_wordsOf:Nat→Yg→Option (List Int)
 | 0,_=>none
 | m+1,s=>B_impl_wordsOf impl_right (L_impl_wordsOf m) s
noncomputable def impl_wordsOf:Yl:=E_impl_wordsOf impl_right (L_impl_wordsOf gas)
theorem XAC:Tells ctx PP 131 cv6 cv51 (fun a=>impl_wordsOf a):=
 have b:∀ z0,CutIs ctx PP 131 Tryz.f131 [] [(132,Xl z0)] cv51 Z4 (B_impl_wordsOf z0):=fun z0 _ s=>by cases s <;> kernel_rfl
 have e:∀ z0,EntryIs ctx PP 131 [] [(132,Xl z0)] cv6 cv51 Z4 (fun k a=>E_impl_wordsOf z0 k a):=fun z0 _ a=>by kernel_rfl
 fn_ok (hc Y4 hl_nil) Tryz.func131 (fun s s' h=>by cases s <;> cases s' <;> first | (cases h;done) | (cases h;rfl) | exact (rg_ne h (by kernel_rfl)).elim) (fun _=>rfl) (fun _ _=>rfl) (b impl_right) (e impl_right) gas
noncomputable def D5 {γ:Type} (F:Yl):Hd ctx γ:=hdl cv6.dec (fun a=>F a) cv51.enc
abbrev Zl:=(List Int)→ByteArray→Option (List Int)
inductive Zg where
 | c0 (a_6:Int) (b_7:Int) (c_8:Int) (d_9:Int) (e_10:Int) (f_11:Int) (g_12:Int) (h_13:Int) (v_37:Int) (state_2r0:(List Int)) (v_4r0:(List Int)) (w_5r0:(List Int))
 | c1 (v_109:Int) (state_2r0:(List Int)) (v_4r0:(List Int)) (out_17r0:(List Int))
noncomputable def E5:Zg→LI
 | .c0 a_6 b_7 c_8 d_9 e_10 f_11 g_12 h_13 v_37 state_2r0 v_4r0 w_5r0=>(tdo Tryz.f127 488,[(2,[.one (.ptr 128 0)]),(4,[.one (.ptr 256 0)]),(5,[.one (.ptr 320 0)]),(6,[.one (.int .u32 a_6)]),(7,[.one (.int .u32 b_7)]),(8,[.one (.int .u32 c_8)]),(9,[.one (.int .u32 d_9)]),(10,[.one (.int .u32 e_10)]),(11,[.one (.int .u32 f_11)]),(12,[.one (.int .u32 g_12)]),(13,[.one (.int .u32 h_13)]),(37,[.one (.int .i64 v_37)])],[(128,.ar 92 state_2r0),(256,.ar 92 v_4r0),(320,.ar 92 w_5r0)])
 | .c1 v_109 state_2r0 v_4r0 out_17r0=>(tdo Tryz.f127 2024,[(2,[.one (.ptr 128 0)]),(4,[.one (.ptr 256 0)]),(17,[.one (.ptr 1088 0)]),(109,[.one (.int .i64 v_109)])],[(128,.ar 92 state_2r0),(256,.ar 92 v_4r0),(1088,.ar 92 out_17r0)])
noncomputable def E_impl_oneBlock (z0:Yl) (z1:Dc) (k:Zg→Option (List Int)) (state_0:(List Int)) (block_1:ByteArray):Option (List Int):=
 (z0 block_1).bind fun r0=>
 bif ((Nat.beq r0.length (List.replicate 64 (0:Int)).length) && (Nat.beq 64 r0.length)) then
 bif (Nat.beq 8 state_0.length) then
 bif ((decide ((0:Int)≤(0:Int))) && (decide (0<(state_0.length:Int)))) then
 bif (Nat.beq 8 state_0.length) then
 bif ((decide ((0:Int)≤(1:Int))) && (decide (1<(state_0.length:Int)))) then
 bif (Nat.beq 8 state_0.length) then
 bif ((decide ((0:Int)≤(2:Int))) && (decide (2<(state_0.length:Int)))) then
 bif (Nat.beq 8 state_0.length) then
 bif ((decide ((0:Int)≤(3:Int))) && (decide (3<(state_0.length:Int)))) then
 bif (Nat.beq 8 state_0.length) then
 bif ((decide ((0:Int)≤(4:Int))) && (decide (4<(state_0.length:Int)))) then
 bif (Nat.beq 8 state_0.length) then
 bif ((decide ((0:Int)≤(5:Int))) && (decide (5<(state_0.length:Int)))) then
 bif (Nat.beq 8 state_0.length) then
 bif ((decide ((0:Int)≤(6:Int))) && (decide (6<(state_0.length:Int)))) then
 bif (Nat.beq 8 state_0.length) then
 bif ((decide ((0:Int)≤(7:Int))) && (decide (7<(state_0.length:Int)))) then
 k (.c0 (state_0.getD (0:Int).toNat 0) (state_0.getD (1:Int).toNat 0) (state_0.getD (2:Int).toNat 0) (state_0.getD (3:Int).toNat 0) (state_0.getD (4:Int).toNat 0) (state_0.getD (5:Int).toNat 0) (state_0.getD (6:Int).toNat 0) (state_0.getD (7:Int).toNat 0) 0 state_0 [0,0,0,0,0,0,0,0] r0)
 else none
 else none
 else none
 else none
 else none
 else none
 else none
 else none
 else none
 else none
 else none
 else none
 else none
 else none
 else none
 else none
 else none
noncomputable def B_impl_oneBlock (z0:Yl) (z1:Dc) (k:Zg→Option (List Int)):Zg→Option (List Int)
 | .c0 a_6 b_7 c_8 d_9 e_10 f_11 g_12 h_13 v_37 state_2r0 v_4r0 w_5r0=>
 bif (decide (v_37<64)) then
  (z1 e_10 6).bind fun r0=>
  (z1 e_10 11).bind fun r1=>
  (z1 e_10 25).bind fun r2=>
  bif ((decide (0≤v_37)) && (decide (v_37<((64:Nat):Int)))) then
  bif (Nat.blt v_37.toNat 64) then
  bif (Nat.beq 64 w_5r0.length) then
  bif ((decide (0≤v_37)) && (decide (v_37<(w_5r0.length:Int)))) then
  (z1 a_6 2).bind fun r3=>
  (z1 a_6 13).bind fun r4=>
  (z1 a_6 22).bind fun r5=>
  k (.c0 (w32 ((w32 ((w32 ((w32 ((w32 (h_13+(w32 (((BitVec.toNat ((BitVec.ofInt (IntKind.bits IntKind.u32) (w32 (((BitVec.toNat ((BitVec.ofInt (IntKind.bits IntKind.u32) r0) ^^^ (BitVec.ofInt (IntKind.bits IntKind.u32) r1))):Nat):Int))) ^^^ (BitVec.ofInt (IntKind.bits IntKind.u32) r2))):Nat):Int))))+(w32 (((BitVec.toNat ((BitVec.ofInt (IntKind.bits IntKind.u32) (w32 (((BitVec.toNat ((BitVec.ofInt (IntKind.bits IntKind.u32) e_10) &&& (BitVec.ofInt (IntKind.bits IntKind.u32) f_11))):Nat):Int))) ^^^ (BitVec.ofInt (IntKind.bits IntKind.u32) (w32 (((BitVec.toNat ((BitVec.ofInt (IntKind.bits IntKind.u32) (w32 (((BitVec.toNat ((BitVec.ofInt (IntKind.bits IntKind.u32) (ite ((IntKind.signed IntKind.u32)=true) (-(1:Int)) (IntKind.max IntKind.u32))) ^^^ (BitVec.ofInt (IntKind.bits IntKind.u32) e_10))):Nat):Int))) &&& (BitVec.ofInt (IntKind.bits IntKind.u32) g_12))):Nat):Int))))):Nat):Int))))+([(1116352408:Int),(1899447441:Int),(3049323471:Int),(3921009573:Int),(961987163:Int),(1508970993:Int),(2453635748:Int),(2870763221:Int),(3624381080:Int),(310598401:Int),(607225278:Int),(1426881987:Int),(1925078388:Int),(2162078206:Int),(2614888103:Int),(3248222580:Int),(3835390401:Int),(4022224774:Int),(264347078:Int),(604807628:Int),(770255983:Int),(1249150122:Int),(1555081692:Int),(1996064986:Int),(2554220882:Int),(2821834349:Int),(2952996808:Int),(3210313671:Int),(3336571891:Int),(3584528711:Int),(113926993:Int),(338241895:Int),(666307205:Int),(773529912:Int),(1294757372:Int),(1396182291:Int),(1695183700:Int),(1986661051:Int),(2177026350:Int),(2456956037:Int),(2730485921:Int),(2820302411:Int),(3259730800:Int),(3345764771:Int),(3516065817:Int),(3600352804:Int),(4094571909:Int),(275423344:Int),(430227734:Int),(506948616:Int),(659060556:Int),(883997877:Int),(958139571:Int),(1322822218:Int),(1537002063:Int),(1747873779:Int),(1955562222:Int),(2024104815:Int),(2227730452:Int),(2361852424:Int),(2428436474:Int),(2756734187:Int),(3204031479:Int),(3329325298:Int)].getD v_37.toNat 0)))+(w_5r0.getD v_37.toNat 0)))+(w32 ((w32 (((BitVec.toNat ((BitVec.ofInt (IntKind.bits IntKind.u32) (w32 (((BitVec.toNat ((BitVec.ofInt (IntKind.bits IntKind.u32) r3) ^^^ (BitVec.ofInt (IntKind.bits IntKind.u32) r4))):Nat):Int))) ^^^ (BitVec.ofInt (IntKind.bits IntKind.u32) r5))):Nat):Int))+(w32 (((BitVec.toNat ((BitVec.ofInt (IntKind.bits IntKind.u32) (w32 (((BitVec.toNat ((BitVec.ofInt (IntKind.bits IntKind.u32) (w32 (((BitVec.toNat ((BitVec.ofInt (IntKind.bits IntKind.u32) a_6) &&& (BitVec.ofInt (IntKind.bits IntKind.u32) b_7))):Nat):Int))) ^^^ (BitVec.ofInt (IntKind.bits IntKind.u32) (w32 (((BitVec.toNat ((BitVec.ofInt (IntKind.bits IntKind.u32) a_6) &&& (BitVec.ofInt (IntKind.bits IntKind.u32) c_8))):Nat):Int))))):Nat):Int))) ^^^ (BitVec.ofInt (IntKind.bits IntKind.u32) (w32 (((BitVec.toNat ((BitVec.ofInt (IntKind.bits IntKind.u32) b_7) &&& (BitVec.ofInt (IntKind.bits IntKind.u32) c_8))):Nat):Int))))):Nat):Int)))))) a_6 b_7 c_8 (w32 (d_9+(w32 ((w32 ((w32 ((w32 (h_13+(w32 (((BitVec.toNat ((BitVec.ofInt (IntKind.bits IntKind.u32) (w32 (((BitVec.toNat ((BitVec.ofInt (IntKind.bits IntKind.u32) r0) ^^^ (BitVec.ofInt (IntKind.bits IntKind.u32) r1))):Nat):Int))) ^^^ (BitVec.ofInt (IntKind.bits IntKind.u32) r2))):Nat):Int))))+(w32 (((BitVec.toNat ((BitVec.ofInt (IntKind.bits IntKind.u32) (w32 (((BitVec.toNat ((BitVec.ofInt (IntKind.bits IntKind.u32) e_10) &&& (BitVec.ofInt (IntKind.bits IntKind.u32) f_11))):Nat):Int))) ^^^ (BitVec.ofInt (IntKind.bits IntKind.u32) (w32 (((BitVec.toNat ((BitVec.ofInt (IntKind.bits IntKind.u32) (w32 (((BitVec.toNat ((BitVec.ofInt (IntKind.bits IntKind.u32) (ite ((IntKind.signed IntKind.u32)=true) (-(1:Int)) (IntKind.max IntKind.u32))) ^^^ (BitVec.ofInt (IntKind.bits IntKind.u32) e_10))):Nat):Int))) &&& (BitVec.ofInt (IntKind.bits IntKind.u32) g_12))):Nat):Int))))):Nat):Int))))+([(1116352408:Int),(1899447441:Int),(3049323471:Int),(3921009573:Int),(961987163:Int),(1508970993:Int),(2453635748:Int),(2870763221:Int),(3624381080:Int),(310598401:Int),(607225278:Int),(1426881987:Int),(1925078388:Int),(2162078206:Int),(2614888103:Int),(3248222580:Int),(3835390401:Int),(4022224774:Int),(264347078:Int),(604807628:Int),(770255983:Int),(1249150122:Int),(1555081692:Int),(1996064986:Int),(2554220882:Int),(2821834349:Int),(2952996808:Int),(3210313671:Int),(3336571891:Int),(3584528711:Int),(113926993:Int),(338241895:Int),(666307205:Int),(773529912:Int),(1294757372:Int),(1396182291:Int),(1695183700:Int),(1986661051:Int),(2177026350:Int),(2456956037:Int),(2730485921:Int),(2820302411:Int),(3259730800:Int),(3345764771:Int),(3516065817:Int),(3600352804:Int),(4094571909:Int),(275423344:Int),(430227734:Int),(506948616:Int),(659060556:Int),(883997877:Int),(958139571:Int),(1322822218:Int),(1537002063:Int),(1747873779:Int),(1955562222:Int),(2024104815:Int),(2227730452:Int),(2361852424:Int),(2428436474:Int),(2756734187:Int),(3204031479:Int),(3329325298:Int)].getD v_37.toNat 0)))+(w_5r0.getD v_37.toNat 0))))) e_10 f_11 g_12 (w64 (v_37+1)) state_2r0 v_4r0 w_5r0)
  else none
  else none
  else none
  else none
 else
  k (.c1 0 state_2r0 v_4r0 [a_6,b_7,c_8,d_9,e_10,f_11,g_12,h_13])
 | .c1 v_109 state_2r0 v_4r0 out_17r0=>
 bif (decide (v_109<8)) then
  bif (Nat.beq 8 out_17r0.length) then
  bif ((decide (0≤v_109)) && (decide (v_109<(out_17r0.length:Int)))) then
  bif (Nat.beq 8 state_2r0.length) then
  bif ((decide (0≤v_109)) && (decide (v_109<(state_2r0.length:Int)))) then
  bif (Nat.beq 8 out_17r0.length) then
  bif ((decide (0≤v_109)) && (decide (v_109<(out_17r0.length:Int)))) then
  k (.c1 (w64 (v_109+1)) state_2r0 v_4r0 (out_17r0.set v_109.toNat (w32 ((out_17r0.getD v_109.toNat 0)+(state_2r0.getD v_109.toNat 0)))))
  else none
  else none
  else none
  else none
  else none
  else none
 else
  bif (Nat.beq 8 out_17r0.length) then
  bif ((Nat.beq out_17r0.length v_4r0.length) && (Nat.beq 8 out_17r0.length)) then
  bif ((Nat.beq 8 out_17r0.length) && true) then
  some out_17r0
  else none
  else none
  else none
noncomputable def L_impl_oneBlock:Nat→Zg→Option (List Int)
 | 0,_=>none
 | m+1,s=>B_impl_oneBlock impl_wordsOf impl_right (L_impl_oneBlock m) s
noncomputable def impl_oneBlock:Zl:=E_impl_oneBlock impl_wordsOf impl_right (L_impl_oneBlock gas)
theorem YAC:Tells ctx PP 127 cv53 cv51 (fun a=>impl_oneBlock a.1 a.2):=
 have b:∀ z0 z1,CutIs ctx PP 127 Tryz.f127 [] [(131,D5 z0),(132,Xl z1)] cv51 E5 (B_impl_oneBlock z0 z1):=fun z0 z1 _ s=>by cases s <;> kernel_rfl
 have e:∀ z0 z1,EntryIs ctx PP 127 [] [(131,D5 z0),(132,Xl z1)] cv53 cv51 E5 (fun k a=>E_impl_oneBlock z0 z1 k a.1 a.2):=fun z0 z1 _ a=>by kernel_rfl
 fn_ok (hc XAC (hc Y4 hl_nil)) Tryz.func127 (fun s s' h=>by cases s <;> cases s' <;> first | (cases h;done) | (cases h;rfl) | exact (rg_ne h (by kernel_rfl)).elim) (fun _=>rfl) (fun _ _=>rfl) (b impl_wordsOf impl_right) (e impl_wordsOf impl_right) gas
noncomputable def F5 {γ:Type} (F:Zl):Hd ctx γ:=hdl cv53.dec (fun a=>F a.1 a.2) cv51.enc
abbrev Js:=(List Int)→ByteArray→Option ((List Int)×ByteArray)
inductive Ah where
 | c0 (s_1:ByteArray) (state_2r0:(List Int)) (v_4r0:(List Int))
noncomputable def G5:Ah→LI
 | .c0 s_1 state_2r0 v_4r0=>(tdo Tryz.f109 96,[(1,[.one (.str s_1)]),(2,[.one (.ptr 128 0)]),(4,[.one (.ptr 256 0)])],[(128,.ar 92 state_2r0),(256,.ar 92 v_4r0)])
noncomputable def E_impl_blocks (z0:Zl) (k:Ah→Option ((List Int)×ByteArray)) (state_0:(List Int)) (s_1:ByteArray):Option ((List Int)×ByteArray):=
 k (.c0 s_1 state_0 [0,0,0,0,0,0,0,0])
noncomputable def B_impl_blocks (z0:Zl) (k:Ah→Option ((List Int)×ByteArray)):Ah→Option ((List Int)×ByteArray)
 | .c0 s_1 state_2r0 v_4r0=>
 bif (decide ((s_1.size:Int)≥64)) then
  bif (Nat.beq 8 state_2r0.length) then
  bif ((decide ((0:Int)≤(64:Int))) && (decide (64≤(s_1.size:Int)))) then
  (z0 state_2r0 (s_1.extract 0 (64:Int).toNat)).bind fun r0=>
  bif ((Nat.beq r0.length state_2r0.length) && (Nat.beq 8 r0.length)) then
  bif ((decide ((0:Int)≤(64:Int))) && (decide (64≤(s_1.size:Int)))) then
  k (.c0 (s_1.extract (64:Int).toNat s_1.size) r0 v_4r0)
  else none
  else none
  else none
  else none
 else
  bif (Nat.beq 8 state_2r0.length) then
  bif ((Nat.beq state_2r0.length v_4r0.length) && (Nat.beq 8 state_2r0.length)) then
  bif ((Nat.beq 8 state_2r0.length) && true) then
  some (state_2r0,s_1)
  else none
  else none
  else none
noncomputable def L_impl_blocks:Nat→Ah→Option ((List Int)×ByteArray)
 | 0,_=>none
 | m+1,s=>B_impl_blocks impl_oneBlock (L_impl_blocks m) s
noncomputable def impl_blocks:Js:=E_impl_blocks impl_oneBlock (L_impl_blocks gas)
theorem ZAC:Tells ctx PP 109 cv53 cv53 (fun a=>impl_blocks a.1 a.2):=
 have b:∀ z0,CutIs ctx PP 109 Tryz.f109 [] [(127,F5 z0)] cv53 G5 (B_impl_blocks z0):=fun z0 _ s=>by cases s <;> kernel_rfl
 have e:∀ z0,EntryIs ctx PP 109 [] [(127,F5 z0)] cv53 cv53 G5 (fun k a=>E_impl_blocks z0 k a.1 a.2):=fun z0 _ a=>by kernel_rfl
 fn_ok (hc YAC hl_nil) Tryz.func109 (fun s s' h=>by cases s;cases s';cases h;rfl) (fun _=>rfl) (fun _ _=>rfl) (b impl_oneBlock) (e impl_oneBlock) gas
noncomputable def AAD {γ:Type} (F:Js):Hd ctx γ:=hdl cv53.dec (fun a=>F a.1 a.2) cv53.enc
abbrev Ls:=(List Int)→Option ByteArray
inductive Bh where
 | c0 (out_3:ByteArray) (v_6:(List Int)) (v_7:Int)
noncomputable def I5:Bh→LI
 | .c0 out_3 v_6 v_7=>(tdo Tryz.f112 232,[(3,[.one (.str out_3)]),(6,[.arr 92 v_6]),(7,[.one (.int .i64 v_7)])],[])
noncomputable def E_impl_stateText (z0:WZ) (k:Bh→Option ByteArray) (state_0:(List Int)):Option ByteArray:=
 bif (Nat.beq 8 state_0.length) then
 k (.c0 ⟨#[]⟩ state_0 0)
 else none
noncomputable def B_impl_stateText (z0:WZ) (k:Bh→Option ByteArray):Bh→Option ByteArray
 | .c0 out_3 v_6 v_7=>
 bif (decide (v_7<8)) then
  bif (Nat.beq 8 v_6.length) then
  bif ((decide (0≤v_7)) && (decide (v_7<(v_6.length:Int)))) then
  (z0 (v_6.getD v_7.toNat 0)).bind fun r0=>
  bif (decide ((out_3.size+r0.size)≤9223372036854775807)) then
  k (.c0 (out_3++r0) v_6 (w64 (v_7+1)))
  else none
  else none
  else none
 else
  some out_3
noncomputable def L_impl_stateText:Nat→Bh→Option ByteArray
 | 0,_=>none
 | m+1,s=>B_impl_stateText impl_fourBytes (L_impl_stateText m) s
noncomputable def impl_stateText:Ls:=E_impl_stateText impl_fourBytes (L_impl_stateText gas)
theorem CAD:Tells ctx PP 112 cv51 cv6 (fun a=>impl_stateText a):=
 have b:∀ z0,CutIs ctx PP 112 Tryz.f112 [] [(61,Zb z0)] cv6 I5 (B_impl_stateText z0):=fun z0 _ s=>by cases s <;> kernel_rfl
 have e:∀ z0,EntryIs ctx PP 112 [] [(61,Zb z0)] cv51 cv6 I5 (fun k a=>E_impl_stateText z0 k a):=fun z0 _ a=>by kernel_rfl
 fn_ok (hc Sl hl_nil) Tryz.func112 (fun s s' h=>by cases s;cases s';cases h;rfl) (fun _=>rfl) (fun _ _=>rfl) (b impl_fourBytes) (e impl_fourBytes) gas
noncomputable def DAD {γ:Type} (F:Ls):Hd ctx γ:=hdl cv51.dec (fun a=>F a) cv6.enc
abbrev Dh:=ByteArray→Option ByteArray
noncomputable def E_impl_DigestOf (z0:Vr) (z1:Es) (z2:Js) (z3:Ls) (s_0:ByteArray):Option ByteArray:=
 z0.bind fun r0=>
 (z1 (s_0.size:Int)).bind fun r1=>
 bif (decide ((s_0.size+r1.size)≤9223372036854775807)) then
 (z2 r0 (s_0++r1)).bind fun r2=>
 bif ((Nat.beq r2.1.length 8) && (Nat.beq 8 r2.1.length)) then
 bif (Nat.beq 8 r2.1.length) then
 (z3 r2.1).bind fun r3=>
 some r3
 else none
 else none
 else none
noncomputable def impl_DigestOf:Dh:=E_impl_DigestOf impl_firstState impl_ending impl_blocks impl_stateText
theorem Ns:Tells ctx PP 79 cv6 cv6 (fun a=>impl_DigestOf a):=fn_ok0 (hc OAC (hc SAC (hc ZAC (hc CAD hl_nil)))) Tryz.func79 ((fun z0 z1 z2 z3 a=>by kernel_rfl:∀ z0 z1 z2 z3,EntryIs0 ctx PP 79 [] [(110,PAC z0),(111,UAC z1),(109,AAD z2),(112,DAD z3)] cv6 cv6 fun a=>E_impl_DigestOf z0 z1 z2 z3 a) impl_firstState impl_ending impl_blocks impl_stateText)
noncomputable def Qs {γ:Type} (F:Dh):Hd ctx γ:=hdl cv6.dec (fun a=>F a) cv6.enc
abbrev Us:=ByteArray→Int→Option ByteArray
inductive Eh where
 | c0 (x_1:Int) (v_10:Int) (v_11:Int) (out_5:(List Int))
noncomputable def J5:Eh→LI
 | .c0 x_1 v_10 v_11 out_5=>(tdo Tryz.f124 232,[(1,[.one (.int .u8 x_1)]),(5,[.one (.own 368)]),(10,[.one (.int .i64 v_10)]),(11,[.one (.int .i64 v_11)])],[(368,.sl 5 out_5)])
noncomputable def E_impl_xored (k:Eh→Option ByteArray) (s_0:ByteArray) (x_1:Int):Option ByteArray:=
 bif (decide (s_0.size≤9223372036854775807)) then
 k (.c0 x_1 ((bytesOf s_0).length:Int) 0 (bytesOf s_0))
 else none
noncomputable def B_impl_xored (k:Eh→Option ByteArray):Eh→Option ByteArray
 | .c0 x_1 v_10 v_11 out_5=>
 bif (decide (v_11<v_10)) then
  bif ((decide (0≤v_11)) && (decide (v_11<(out_5.length:Int)))) then
  bif ((decide (0≤v_11)) && (decide (v_11<(out_5.length:Int)))) then
  k (.c0 x_1 v_10 (w64 (v_11+1)) (out_5.set v_11.toNat (w8 (((BitVec.toNat ((BitVec.ofInt (IntKind.bits IntKind.u8) (out_5.getD v_11.toNat 0)) ^^^ (BitVec.ofInt (IntKind.bits IntKind.u8) x_1))):Nat):Int))))
  else none
  else none
 else
  some (ofBytes out_5)
noncomputable def L_impl_xored:Nat→Eh→Option ByteArray
 | 0,_=>none
 | m+1,s=>B_impl_xored (L_impl_xored m) s
noncomputable def impl_xored:Us:=E_impl_xored (L_impl_xored gas)
theorem EAD:Tells ctx PP 124 cv42 cv6 (fun a=>impl_xored a.1 a.2):=
 have b:CutIs ctx PP 124 Tryz.f124 [] [] cv6 J5 (B_impl_xored):=fun _ s=>by cases s <;> kernel_rfl
 have e:EntryIs ctx PP 124 [] [] cv42 cv6 J5 (fun k a=>E_impl_xored k a.1 a.2):=fun _ a=>by kernel_rfl
 fn_ok hl_nil Tryz.func124 (fun s s' h=>by cases s;cases s';cases h;rfl) (fun _=>rfl) (fun _ _=>rfl) b e gas
noncomputable def FAD {γ:Type} (F:Us):Hd ctx γ:=hdl cv42.dec (fun a=>F a.1 a.2) cv6.enc
abbrev Fh:=ByteArray→ByteArray→Option ByteArray
noncomputable def E_impl_MacOf (z0:Dh) (z1:Xg) (z2:Us) (key_0:ByteArray) (s_1:ByteArray):Option ByteArray:=
 bif (decide ((key_0.size:Int) > 64)) then
 (z0 key_0).bind fun r0=>
 (z1 (w64 (64 - (r0.size:Int)))).bind fun r1=>
 bif (decide ((r0.size+r1.size)≤9223372036854775807)) then
 (z2 (r0++r1) 92).bind fun r2=>
 (z2 (r0++r1) 54).bind fun r3=>
 bif (decide ((r3.size+s_1.size)≤9223372036854775807)) then
 (z0 (r3++s_1)).bind fun r4=>
 bif (decide ((r2.size+r4.size)≤9223372036854775807)) then
 (z0 (r2++r4)).bind fun r5=>
 some r5
 else none
 else none
 else none
 else
 (z1 (w64 (64 - (key_0.size:Int)))).bind fun r6=>
 bif (decide ((key_0.size+r6.size)≤9223372036854775807)) then
 (z2 (key_0++r6) 92).bind fun r7=>
 (z2 (key_0++r6) 54).bind fun r8=>
 bif (decide ((r8.size+s_1.size)≤9223372036854775807)) then
 (z0 (r8++s_1)).bind fun r9=>
 bif (decide ((r7.size+r9.size)≤9223372036854775807)) then
 (z0 (r7++r9)).bind fun r10=>
 some r10
 else none
 else none
 else none
noncomputable def impl_MacOf:Fh:=E_impl_MacOf impl_DigestOf impl_zeros impl_xored
theorem O5:Tells ctx PP 102 cv43 cv6 (fun a=>impl_MacOf a.1 a.2):=fn_ok0 (hc Ns (hc Xr (hc EAD hl_nil))) Tryz.func102 ((fun z0 z1 z2 a=>by kernel_rfl:∀ z0 z1 z2,EntryIs0 ctx PP 102 [] [(79,Qs z0),(80,Yr z1),(124,FAD z2)] cv43 cv6 fun a=>E_impl_MacOf z0 z1 z2 a.1 a.2) impl_DigestOf impl_zeros impl_xored)
noncomputable def Vs {γ:Type} (F:Fh):Hd ctx γ:=hdl cv43.dec (fun a=>F a.1 a.2) cv6.enc
abbrev Am:=ByteArray→Int→Int→Option (ByteArray×Bool)
inductive Gh where
 | c0 (key_0:ByteArray) (n_2:Int) (v_8:ByteArray) (out_10:ByteArray) (i_11:Int)
noncomputable def P5:Gh→LI
 | .c0 key_0 n_2 v_8 out_10 i_11=>(tdo Tryz.f63 2000,[(0,[.one (.str key_0)]),(2,[.one (.int .i64 n_2)]),(8,[.one (.str v_8)]),(10,[.one (.str out_10)]),(11,[.one (.int .i64 i_11)])],[])
noncomputable def E_impl_Mask (z0:Vl) (z1:OY) (z2:Cc) (z3:Fh) (k:Gh→Option (ByteArray×Bool)) (key_0:ByteArray) (num_1:Int) (n_2:Int):Option (ByteArray×Bool):=
 (z0 num_1).bind fun r0=>
 bif (!r0.2) then
 some (⟨#[]⟩,false)
 else
 (z1 n_2 0 8000).bind fun r1=>
 bif (!r1) then
  some (⟨#[]⟩,false)
 else
  k (.c0 key_0 n_2 r0.1 ⟨#[]⟩ 0)
noncomputable def B_impl_Mask (z0:Vl) (z1:OY) (z2:Cc) (z3:Fh) (k:Gh→Option (ByteArray×Bool)):Gh→Option (ByteArray×Bool)
 | .c0 key_0 n_2 v_8 out_10 i_11=>
 bif (decide ((out_10.size:Int)<n_2)) then
  bif (decide (((⟨#[109]⟩:ByteArray).size+v_8.size)≤9223372036854775807)) then
  (z2 i_11).bind fun r0=>
  bif (decide ((((⟨#[109]⟩:ByteArray)++v_8).size+r0.size)≤9223372036854775807)) then
  (z3 key_0 (((⟨#[109]⟩:ByteArray)++v_8)++r0)).bind fun r1=>
  bif (decide ((out_10.size+r1.size)≤9223372036854775807)) then
  k (.c0 key_0 n_2 v_8 (out_10++r1) (w64 (i_11+1)))
  else none
  else none
  else none
 else
  bif ((decide (0≤n_2)) && (decide (n_2≤(out_10.size:Int)))) then
  some ((out_10.extract 0 n_2.toNat),true)
  else none
noncomputable def L_impl_Mask:Nat→Gh→Option (ByteArray×Bool)
 | 0,_=>none
 | m+1,s=>B_impl_Mask impl_VarText impl_in impl_oneByte impl_MacOf (L_impl_Mask m) s
noncomputable def impl_Mask:Am:=E_impl_Mask impl_VarText impl_in impl_oneByte impl_MacOf (L_impl_Mask gas)
theorem Q5:Tells ctx PP 63 cv44 cv30 (fun a=>impl_Mask a.1 a.2.1 a.2.2):=
 have b:∀ z0 z1 z2 z3,CutIs ctx PP 63 Tryz.f63 [] [(101,V4 z0),(45,UY z1),(85,Wl z2),(102,Vs z3)] cv30 P5 (B_impl_Mask z0 z1 z2 z3):=fun z0 z1 z2 z3 _ s=>by cases s <;> kernel_rfl
 have e:∀ z0 z1 z2 z3,EntryIs ctx PP 63 [] [(101,V4 z0),(45,UY z1),(85,Wl z2),(102,Vs z3)] cv44 cv30 P5 (fun k a=>E_impl_Mask z0 z1 z2 z3 k a.1 a.2.1 a.2.2):=fun z0 z1 z2 z3 _ a=>by kernel_rfl
 fn_ok (hc NAC (hc IZ (hc Ur (hc O5 hl_nil)))) Tryz.func63 (fun s s' h=>by cases s;cases s';cases h;rfl) (fun _=>rfl) (fun _ _=>rfl) (b impl_VarText impl_in impl_oneByte impl_MacOf) (e impl_VarText impl_in impl_oneByte impl_MacOf) gas
noncomputable def U5 {γ:Type} (F:Am):Hd ctx γ:=hdl cv44.dec (fun a=>F a.1 a.2.1 a.2.2) cv30.enc
abbrev Cm:=ByteArray→Int→ByteArray→Option ByteArray
noncomputable def E_impl_tag (z0:XZ) (z1:Fh) (key_0:ByteArray) (num_1:Int) (s_2:ByteArray):Option ByteArray:=
 (z0 num_1).bind fun r0=>
 bif (decide (((⟨#[116]⟩:ByteArray).size+r0.size)≤9223372036854775807)) then
 bif (decide ((((⟨#[116]⟩:ByteArray)++r0).size+s_2.size)≤9223372036854775807)) then
 (z1 key_0 (((⟨#[116]⟩:ByteArray)++r0)++s_2)).bind fun r1=>
 bif ((decide ((0:Int)≤(16:Int))) && (decide (16≤(r1.size:Int)))) then
 some (r1.extract 0 (16:Int).toNat)
 else none
 else none
 else none
noncomputable def impl_tag:Cm:=E_impl_tag impl_varText impl_MacOf
theorem V5:Tells ctx PP 64 cv45 cv6 (fun a=>impl_tag a.1 a.2.1 a.2.2):=fn_ok0 (hc Ac (hc O5 hl_nil)) Tryz.func64 ((fun z0 z1 a=>by kernel_rfl:∀ z0 z1,EntryIs0 ctx PP 64 [] [(67,Bc z0),(102,Vs z1)] cv45 cv6 fun a=>E_impl_tag z0 z1 a.1 a.2.1 a.2.2) impl_varText impl_MacOf)
noncomputable def X5 {γ:Type} (F:Cm):Hd ctx γ:=hdl cv45.dec (fun a=>F a.1 a.2.1 a.2.2) cv6.enc
abbrev Em:=ByteArray→ByteArray→Option ByteArray
inductive Ih where
 | c0 (b_1:ByteArray) (v_10:Int) (v_11:Int) (out_5:(List Int))
noncomputable def Y5:Ih→LI
 | .c0 b_1 v_10 v_11 out_5=>(tdo Tryz.f65 232,[(1,[.one (.str b_1)]),(5,[.one (.own 368)]),(10,[.one (.int .i64 v_10)]),(11,[.one (.int .i64 v_11)])],[(368,.sl 5 out_5)])
noncomputable def E_impl_both (k:Ih→Option ByteArray) (a_0:ByteArray) (b_1:ByteArray):Option ByteArray:=
 bif (decide (a_0.size≤9223372036854775807)) then
 k (.c0 b_1 ((bytesOf a_0).length:Int) 0 (bytesOf a_0))
 else none
noncomputable def B_impl_both (k:Ih→Option ByteArray):Ih→Option ByteArray
 | .c0 b_1 v_10 v_11 out_5=>
 bif (decide (v_11<v_10)) then
  bif ((decide (0≤v_11)) && (decide (v_11<(out_5.length:Int)))) then
  bif ((decide (0≤v_11)) && (decide (v_11<(b_1.size:Int)))) then
  bif ((decide (0≤v_11)) && (decide (v_11<(out_5.length:Int)))) then
  k (.c0 b_1 v_10 (w64 (v_11+1)) (out_5.set v_11.toNat (w8 (((BitVec.toNat ((BitVec.ofInt (IntKind.bits IntKind.u8) (out_5.getD v_11.toNat 0)) ^^^ (BitVec.ofInt (IntKind.bits IntKind.u8) (bt b_1 v_11)))):Nat):Int))))
  else none
  else none
  else none
 else
  some (ofBytes out_5)
noncomputable def L_impl_both:Nat→Ih→Option ByteArray
 | 0,_=>none
 | m+1,s=>B_impl_both (L_impl_both m) s
noncomputable def impl_both:Em:=E_impl_both (L_impl_both gas)
theorem Z5:Tells ctx PP 65 cv43 cv6 (fun a=>impl_both a.1 a.2):=
 have b:CutIs ctx PP 65 Tryz.f65 [] [] cv6 Y5 (B_impl_both):=fun _ s=>by cases s <;> kernel_rfl
 have e:EntryIs ctx PP 65 [] [] cv43 cv6 Y5 (fun k a=>E_impl_both k a.1 a.2):=fun _ a=>by kernel_rfl
 fn_ok hl_nil Tryz.func65 (fun s s' h=>by cases s;cases s';cases h;rfl) (fun _=>rfl) (fun _ _=>rfl) b e gas
noncomputable def D6 {γ:Type} (F:Em):Hd ctx γ:=hdl cv43.dec (fun a=>F a.1 a.2) cv6.enc
abbrev Gm:=ByteArray→Int→ByteArray→Option (ByteArray×Bool)
noncomputable def E_impl_OpenText (z0:Am) (z1:Cm) (z2:Em) (key_0:ByteArray) (num_1:Int) (text_2:ByteArray):Option (ByteArray×Bool):=
 bif (decide ((w64 ((text_2.size:Int) - 16))<0)) then
 some (⟨#[]⟩,false)
 else
 (z0 key_0 num_1 (w64 ((text_2.size:Int) - 16))).bind fun r0=>
 bif (!r0.2) then
  some (⟨#[]⟩,false)
 else
  bif ((decide (0≤(w64 ((text_2.size:Int) - 16)))) && (decide ((w64 ((text_2.size:Int) - 16))≤(text_2.size:Int)))) then
  (z1 key_0 num_1 (text_2.extract 0 (w64 ((text_2.size:Int) - 16)).toNat)).bind fun r1=>
  bif ((decide (0≤(w64 ((text_2.size:Int) - 16)))) && (decide ((w64 ((text_2.size:Int) - 16))≤(text_2.size:Int)))) then
  bif (!((ByteArray.toList r1) == (ByteArray.toList (text_2.extract (w64 ((text_2.size:Int) - 16)).toNat text_2.size)))) then
  some (⟨#[]⟩,false)
  else
  bif ((decide (0≤(w64 ((text_2.size:Int) - 16)))) && (decide ((w64 ((text_2.size:Int) - 16))≤(text_2.size:Int)))) then
  (z2 (text_2.extract 0 (w64 ((text_2.size:Int) - 16)).toNat) r0.1).bind fun r2=>
  some (r2,true)
  else none
  else none
  else none
noncomputable def impl_OpenText:Gm:=E_impl_OpenText impl_Mask impl_tag impl_both
theorem GAD:Tells ctx PP 28 cv45 cv30 (fun a=>impl_OpenText a.1 a.2.1 a.2.2):=fn_ok0 (hc Q5 (hc V5 (hc Z5 hl_nil))) Tryz.func28 ((fun z0 z1 z2 a=>by kernel_rfl:∀ z0 z1 z2,EntryIs0 ctx PP 28 [] [(63,U5 z0),(64,X5 z1),(65,D6 z2)] cv45 cv30 fun a=>E_impl_OpenText z0 z1 z2 a.1 a.2.1 a.2.2) impl_Mask impl_tag impl_both)
noncomputable def F6 {γ:Type} (F:Gm):Hd ctx γ:=hdl cv45.dec (fun a=>F a.1 a.2.1 a.2.2) cv30.enc
abbrev Ws:=SFields→Option (Int×SFields)
noncomputable def E_impl_fields_num (z0:Ya) (f_0:SFields):Option (Int×SFields):=
 (z0 f_0.fText f_0.fAt).bind fun r0=>
 bif (!r0.2.2) then
 some (0,⟨f_0.fText,f_0.fAt,true⟩)
 else
 some (r0.1,⟨f_0.fText,r0.2.1,f_0.fBad⟩)
noncomputable def impl_fields_num:Ws:=E_impl_fields_num impl_ReadVar
theorem IAD:Tells ctx PP 103 cv54 cv55 (fun a=>impl_fields_num a):=fn_ok0 (hc Rl hl_nil) Tryz.func103 ((fun z0 a=>by kernel_rfl:∀ z0,EntryIs0 ctx PP 103 [0] [(60,Og z0)] cv54 cv55 fun a=>E_impl_fields_num z0 a) impl_ReadVar)
noncomputable def JAD {γ:Type} (F:Ws):Hd ctx γ:=hdl cv54.dec (fun a=>F a) cv55.enc
abbrev Dt:=ByteArray→Int→Option (ByteArray×Int×Bool)
noncomputable def E_impl_ReadShort (z0:Ya) (text_0:ByteArray) (at_1:Int):Option (ByteArray×Int×Bool):=
 (z0 text_0 at_1).bind fun r0=>
 bif (!r0.2.2) then
 some (⟨#[]⟩,(0,false))
 else
 bif (decide (r0.1 > 20000)) then
  some (⟨#[]⟩,(0,false))
 else
  bif (decide (r0.1 > (w64 ((text_0.size:Int) - r0.2.1)))) then
  some (⟨#[]⟩,(0,false))
  else
  bif (((decide (0≤r0.2.1)) && (decide (r0.2.1≤(w64 (r0.2.1+r0.1))))) && (decide ((w64 (r0.2.1+r0.1))≤(text_0.size:Int)))) then
  some ((text_0.extract r0.2.1.toNat (w64 (r0.2.1+r0.1)).toNat),((w64 (r0.2.1+r0.1)),true))
  else none
noncomputable def impl_ReadShort:Dt:=E_impl_ReadShort impl_ReadVar
theorem KAD:Tells ctx PP 125 cv9 cv56 (fun a=>impl_ReadShort a.1 a.2):=fn_ok0 (hc Rl hl_nil) Tryz.func125 ((fun z0 a=>by kernel_rfl:∀ z0,EntryIs0 ctx PP 125 [] [(60,Og z0)] cv9 cv56 fun a=>E_impl_ReadShort z0 a.1 a.2) impl_ReadVar)
noncomputable def LAD {γ:Type} (F:Dt):Hd ctx γ:=hdl cv9.dec (fun a=>F a.1 a.2) cv56.enc
abbrev Et:=SFields→Option (ByteArray×SFields)
noncomputable def E_impl_fields_short (z0:Dt) (f_0:SFields):Option (ByteArray×SFields):=
 (z0 f_0.fText f_0.fAt).bind fun r0=>
 bif (!r0.2.2) then
 some (⟨#[]⟩,⟨f_0.fText,f_0.fAt,true⟩)
 else
 some (r0.1,⟨f_0.fText,r0.2.1,f_0.fBad⟩)
noncomputable def impl_fields_short:Et:=E_impl_fields_short impl_ReadShort
theorem MAD:Tells ctx PP 104 cv54 cv57 (fun a=>impl_fields_short a):=fn_ok0 (hc KAD hl_nil) Tryz.func104 ((fun z0 a=>by kernel_rfl:∀ z0,EntryIs0 ctx PP 104 [0] [(125,LAD z0)] cv54 cv57 fun a=>E_impl_fields_short z0 a) impl_ReadShort)
noncomputable def NAD {γ:Type} (F:Et):Hd ctx γ:=hdl cv54.dec (fun a=>F a) cv57.enc
abbrev Jh:=SThing→Option Bool
noncomputable def E_impl_ThingOk (z0:OY) (x_0:SThing):Option Bool:=
 (z0 x_0.fId 1 1000).bind fun r0=>
 bif (!r0) then
 some false
 else
 (z0 x_0.fNext 0 16).bind fun r1=>
 bif (!r1) then
  some false
 else
  bif (x_0.fKind != 2) then
  bif (x_0.fNext != 0) then
   some false
  else
   bif x_0.fSigns then
   some false
   else
   bif (x_0.fKind != 1) then
    bif x_0.fWraps then
    some false
    else
    bif (x_0.fKind == 1) then
     bif (x_0.fKind == 1) then
     some ((x_0.fValue.size:Int) == 32)
     else
     bif (x_0.fKind == 3) then
      some (decide ((x_0.fValue.size:Int)≤100))
     else
      some false
    else
     bif (x_0.fKind == 2) then
     some ((x_0.fValue.size:Int) == 32)
     else
     bif (x_0.fKind == 3) then
      some (decide ((x_0.fValue.size:Int)≤100))
     else
      some false
   else
    bif (x_0.fKind == 1) then
    bif (x_0.fKind == 1) then
     some ((x_0.fValue.size:Int) == 32)
    else
     bif (x_0.fKind == 3) then
     some (decide ((x_0.fValue.size:Int)≤100))
     else
     some false
    else
    bif (x_0.fKind == 2) then
     some ((x_0.fValue.size:Int) == 32)
    else
     bif (x_0.fKind == 3) then
     some (decide ((x_0.fValue.size:Int)≤100))
     else
     some false
  else
  bif (x_0.fKind != 1) then
   bif x_0.fWraps then
   some false
   else
   bif (x_0.fKind == 1) then
    bif (x_0.fKind == 1) then
    some ((x_0.fValue.size:Int) == 32)
    else
    bif (x_0.fKind == 3) then
     some (decide ((x_0.fValue.size:Int)≤100))
    else
     some false
   else
    bif (x_0.fKind == 2) then
    some ((x_0.fValue.size:Int) == 32)
    else
    bif (x_0.fKind == 3) then
     some (decide ((x_0.fValue.size:Int)≤100))
    else
     some false
  else
   bif (x_0.fKind == 1) then
   bif (x_0.fKind == 1) then
    some ((x_0.fValue.size:Int) == 32)
   else
    bif (x_0.fKind == 3) then
    some (decide ((x_0.fValue.size:Int)≤100))
    else
    some false
   else
   bif (x_0.fKind == 2) then
    some ((x_0.fValue.size:Int) == 32)
   else
    bif (x_0.fKind == 3) then
    some (decide ((x_0.fValue.size:Int)≤100))
    else
    some false
noncomputable def impl_ThingOk:Jh:=E_impl_ThingOk impl_in
theorem G6:Tells ctx PP 119 cv28 cv1 (fun a=>impl_ThingOk a):=fn_ok0 (hc IZ hl_nil) Tryz.func119 ((fun z0 a=>by kernel_rfl:∀ z0,EntryIs0 ctx PP 119 [] [(45,UY z0)] cv28 cv1 fun a=>E_impl_ThingOk z0 a) impl_in)
noncomputable def Gt {γ:Type} (F:Jh):Hd ctx γ:=hdl cv28.dec (fun a=>F a) cv1.enc
abbrev Ht:=SThing→Option Int
inductive Lh where
 | c0 (n_3:Int) (v_15:Int) (v_16:Int) (v_14:(List Bool))
noncomputable def H6:Lh→LI
 | .c0 n_3 v_15 v_16 v_14=>(tdo Tryz.f120 232,[(3,[.one (.int .i64 n_3)]),(14,[.one (.own 944)]),(15,[.one (.int .i64 v_15)]),(16,[.one (.int .i64 v_16)])],[(944,.sl 4 v_14)])
noncomputable def E_impl_flags (k:Lh→Option Int) (x_0:SThing):Option Int:=
 k (.c0 0 ((4:Nat):Int) 0 [x_0.fHidden,x_0.fFixed,x_0.fSigns,x_0.fWraps])
noncomputable def J6 (k:Lh→Option Int):Lh→Option Int
 | .c0 n_3 v_15 v_16 v_14=>
 bif (decide (v_16<v_15)) then
  bif ((decide (0≤v_16)) && (decide (v_16<(v_14.length:Int)))) then
  bif (v_14.getD v_16.toNat false) then
  bif (decide (0≤v_16)) then
  k (.c0 (w64 (((BitVec.toNat ((BitVec.ofInt (IntKind.bits IntKind.i64) n_3) ||| (BitVec.ofInt (IntKind.bits IntKind.i64) (w64 (1*(2 ^ (Min.min v_16.toNat (IntKind.bits IntKind.i64)))))))):Nat):Int)) v_15 (w64 (v_16+1)) v_14)
  else none
  else
  k (.c0 n_3 v_15 (w64 (v_16+1)) v_14)
  else none
 else
  some n_3
noncomputable def L_impl_flags:Nat→Lh→Option Int
 | 0,_=>none
 | m+1,s=>J6 (L_impl_flags m) s
noncomputable def impl_flags:Ht:=E_impl_flags (L_impl_flags gas)
theorem OAD:Tells ctx PP 120 cv28 cv27 (fun a=>impl_flags a):=
 have b:CutIs ctx PP 120 Tryz.f120 [] [] cv27 H6 (J6):=fun _ s=>by cases s <;> kernel_rfl
 have e:EntryIs ctx PP 120 [] [] cv28 cv27 H6 (fun k a=>E_impl_flags k a):=fun _ a=>by kernel_rfl
 fn_ok hl_nil Tryz.func120 (fun s s' h=>by cases s;cases s';cases h;rfl) (fun _=>rfl) (fun _ _=>rfl) b e gas
noncomputable def PAD {γ:Type} (F:Ht):Hd ctx γ:=hdl cv28.dec (fun a=>F a) cv27.enc
abbrev Jt:=ByteArray→Option ByteArray
noncomputable def E_impl_shortText (z0:XZ) (s_0:ByteArray):Option ByteArray:=
 (z0 (s_0.size:Int)).bind fun r0=>
 bif (decide ((r0.size+s_0.size)≤9223372036854775807)) then
 some (r0++s_0)
 else none
noncomputable def impl_shortText:Jt:=E_impl_shortText impl_varText
theorem QAD:Tells ctx PP 121 cv6 cv6 (fun a=>impl_shortText a):=fn_ok0 (hc Ac hl_nil) Tryz.func121 ((fun z0 a=>by kernel_rfl:∀ z0,EntryIs0 ctx PP 121 [] [(67,Bc z0)] cv6 cv6 fun a=>E_impl_shortText z0 a) impl_varText)
noncomputable def RAD {γ:Type} (F:Jt):Hd ctx γ:=hdl cv6.dec (fun a=>F a) cv6.enc
abbrev Jm:=SThing→Option (ByteArray×Bool)
noncomputable def E_impl_ThingText (z0:Jh) (z1:XZ) (z2:Cc) (z3:Ht) (z4:Jt) (x_0:SThing):Option (ByteArray×Bool):=
 (z0 x_0).bind fun r0=>
 bif (!r0) then
 some (⟨#[]⟩,false)
 else
 (z1 x_0.fId).bind fun r1=>
 (z2 x_0.fKind).bind fun r2=>
 bif (decide ((r1.size+r2.size)≤9223372036854775807)) then
 (z3 x_0).bind fun r3=>
 (z2 r3).bind fun r4=>
 bif (decide (((r1++r2).size+r4.size)≤9223372036854775807)) then
 (z4 x_0.fValue).bind fun r5=>
 bif (decide ((((r1++r2)++r4).size+r5.size)≤9223372036854775807)) then
 (z1 x_0.fNext).bind fun r6=>
 bif (decide (((((r1++r2)++r4)++r5).size+r6.size)≤9223372036854775807)) then
 some (((((r1++r2)++r4)++r5)++r6),true)
 else none
 else none
 else none
 else none
noncomputable def impl_ThingText:Jm:=E_impl_ThingText impl_ThingOk impl_varText impl_oneByte impl_flags impl_shortText
theorem L6:Tells ctx PP 84 cv28 cv30 (fun a=>impl_ThingText a):=fn_ok0 (hc G6 (hc Ac (hc Ur (hc OAD (hc QAD hl_nil))))) Tryz.func84 ((fun z0 z1 z2 z3 z4 a=>by kernel_rfl:∀ z0 z1 z2 z3 z4,EntryIs0 ctx PP 84 [] [(119,Gt z0),(67,Bc z1),(85,Wl z2),(120,PAD z3),(121,RAD z4)] cv28 cv30 fun a=>E_impl_ThingText z0 z1 z2 z3 z4 a) impl_ThingOk impl_varText impl_oneByte impl_flags impl_shortText)
noncomputable def O6 {γ:Type} (F:Jm):Hd ctx γ:=hdl cv28.dec (fun a=>F a) cv30.enc
abbrev Kt:=ByteArray→Option (SThing×Bool)
noncomputable def E_impl_ReadThing (z0:Ws) (z1:Et) (z2:Jm) (text_0:ByteArray):Option (SThing×Bool):=
 (z0 ⟨text_0,0,false⟩).bind fun r0=>
 (z0 r0.2).bind fun r1=>
 (z0 r1.2).bind fun r2=>
 (z1 r2.2).bind fun r3=>
 (z0 r3.2).bind fun r4=>
 (z2 ⟨r0.1,r1.1,((w64 (((BitVec.toNat ((BitVec.ofInt (IntKind.bits IntKind.i64) r2.1) &&& (BitVec.ofInt (IntKind.bits IntKind.i64) 1))):Nat):Int)) != 0),((w64 (((BitVec.toNat ((BitVec.ofInt (IntKind.bits IntKind.i64) r2.1) &&& (BitVec.ofInt (IntKind.bits IntKind.i64) 2))):Nat):Int)) != 0),((w64 (((BitVec.toNat ((BitVec.ofInt (IntKind.bits IntKind.i64) r2.1) &&& (BitVec.ofInt (IntKind.bits IntKind.i64) 4))):Nat):Int)) != 0),((w64 (((BitVec.toNat ((BitVec.ofInt (IntKind.bits IntKind.i64) r2.1) &&& (BitVec.ofInt (IntKind.bits IntKind.i64) 8))):Nat):Int)) != 0),r3.1,r4.1⟩).bind fun r5=>
 bif r4.2.fBad then
 some (⟨0,0,false,false,false,false,⟨#[]⟩,0⟩,false)
 else
 bif (!r5.2) then
  some (⟨0,0,false,false,false,false,⟨#[]⟩,0⟩,false)
 else
  bif (!((ByteArray.toList r5.1) == (ByteArray.toList text_0))) then
  some (⟨0,0,false,false,false,false,⟨#[]⟩,0⟩,false)
  else
  some (⟨r0.1,r1.1,((w64 (((BitVec.toNat ((BitVec.ofInt (IntKind.bits IntKind.i64) r2.1) &&& (BitVec.ofInt (IntKind.bits IntKind.i64) 1))):Nat):Int)) != 0),((w64 (((BitVec.toNat ((BitVec.ofInt (IntKind.bits IntKind.i64) r2.1) &&& (BitVec.ofInt (IntKind.bits IntKind.i64) 2))):Nat):Int)) != 0),((w64 (((BitVec.toNat ((BitVec.ofInt (IntKind.bits IntKind.i64) r2.1) &&& (BitVec.ofInt (IntKind.bits IntKind.i64) 4))):Nat):Int)) != 0),((w64 (((BitVec.toNat ((BitVec.ofInt (IntKind.bits IntKind.i64) r2.1) &&& (BitVec.ofInt (IntKind.bits IntKind.i64) 8))):Nat):Int)) != 0),r3.1,r4.1⟩,true)
noncomputable def impl_ReadThing:Kt:=E_impl_ReadThing impl_fields_num impl_fields_short impl_ThingText
theorem SAD:Tells ctx PP 66 cv6 cv34 (fun a=>impl_ReadThing a):=fn_ok0 (hc IAD (hc MAD (hc L6 hl_nil))) Tryz.func66 ((fun z0 z1 z2 a=>by kernel_rfl:∀ z0 z1 z2,EntryIs0 ctx PP 66 [] [(103,JAD z0),(104,NAD z1),(84,O6 z2)] cv6 cv34 fun a=>E_impl_ReadThing z0 z1 z2 a) impl_fields_num impl_fields_short impl_ThingText)
noncomputable def TAD {γ:Type} (F:Kt):Hd ctx γ:=hdl cv6.dec (fun a=>F a) cv34.enc
abbrev Nh:=SRec→Option (ByteArray×Bool)
noncomputable def E_impl_RecText (z0:XZ) (z1:OY) (z2:Jm) (z3:Cc) (r_0:SRec):Option (ByteArray×Bool):=
 bif (r_0.fKind == 1) then
 bif (!((r_0.fText.size:Int) == 32)) then
  some (⟨#[]⟩,false)
 else
  bif (!((r_0.fKind == r_0.fKind) && (((ByteArray.toList r_0.fText) == (ByteArray.toList r_0.fText)) && ((r_0.fNum == 0) && (((r_0.fThing.fId == 0) && ((r_0.fThing.fKind == 0) && ((r_0.fThing.fHidden == false) && ((r_0.fThing.fFixed == false) && ((r_0.fThing.fSigns == false) && ((r_0.fThing.fWraps == false) && (((ByteArray.toList r_0.fThing.fValue) == (ByteArray.toList ⟨#[]⟩)) && ((r_0.fThing.fNext == 0) && true)))))))) && true))))) then
  some (⟨#[]⟩,false)
  else
  (z3 r_0.fKind).bind fun r0=>
  bif (decide ((r0.size+r_0.fText.size)≤9223372036854775807)) then
  some ((r0++r_0.fText),true)
  else none
 else
 bif (r_0.fKind == 2) then
  (z0 r_0.fNum).bind fun r1=>
  (z1 r_0.fNum 0 3).bind fun r2=>
  bif (!r2) then
  some (⟨#[]⟩,false)
  else
  bif (!((r_0.fKind == r_0.fKind) && (((ByteArray.toList r_0.fText) == (ByteArray.toList ⟨#[]⟩)) && ((r_0.fNum == r_0.fNum) && (((r_0.fThing.fId == 0) && ((r_0.fThing.fKind == 0) && ((r_0.fThing.fHidden == false) && ((r_0.fThing.fFixed == false) && ((r_0.fThing.fSigns == false) && ((r_0.fThing.fWraps == false) && (((ByteArray.toList r_0.fThing.fValue) == (ByteArray.toList ⟨#[]⟩)) && ((r_0.fThing.fNext == 0) && true)))))))) && true))))) then
   some (⟨#[]⟩,false)
  else
   (z3 r_0.fKind).bind fun r3=>
   bif (decide ((r3.size+r1.size)≤9223372036854775807)) then
   some ((r3++r1),true)
   else none
 else
  bif (r_0.fKind == 3) then
  (z2 r_0.fThing).bind fun r4=>
  bif (!r4.2) then
   some (⟨#[]⟩,false)
  else
   bif (!((r_0.fKind == r_0.fKind) && (((ByteArray.toList r_0.fText) == (ByteArray.toList ⟨#[]⟩)) && ((r_0.fNum == 0) && (((r_0.fThing.fId == r_0.fThing.fId) && ((r_0.fThing.fKind == r_0.fThing.fKind) && ((r_0.fThing.fHidden == r_0.fThing.fHidden) && ((r_0.fThing.fFixed == r_0.fThing.fFixed) && ((r_0.fThing.fSigns == r_0.fThing.fSigns) && ((r_0.fThing.fWraps == r_0.fThing.fWraps) && (((ByteArray.toList r_0.fThing.fValue) == (ByteArray.toList r_0.fThing.fValue)) && ((r_0.fThing.fNext == r_0.fThing.fNext) && true)))))))) && true))))) then
   some (⟨#[]⟩,false)
   else
   (z3 r_0.fKind).bind fun r5=>
   bif (decide ((r5.size+r4.1.size)≤9223372036854775807)) then
   some ((r5++r4.1),true)
   else none
  else
  bif (r_0.fKind == 4) then
   (z0 r_0.fNum).bind fun r6=>
   (z1 r_0.fNum 1 1000).bind fun r7=>
   bif (!r7) then
   some (⟨#[]⟩,false)
   else
   bif (!((r_0.fKind == r_0.fKind) && (((ByteArray.toList r_0.fText) == (ByteArray.toList ⟨#[]⟩)) && ((r_0.fNum == r_0.fNum) && (((r_0.fThing.fId == 0) && ((r_0.fThing.fKind == 0) && ((r_0.fThing.fHidden == false) && ((r_0.fThing.fFixed == false) && ((r_0.fThing.fSigns == false) && ((r_0.fThing.fWraps == false) && (((ByteArray.toList r_0.fThing.fValue) == (ByteArray.toList ⟨#[]⟩)) && ((r_0.fThing.fNext == 0) && true)))))))) && true))))) then
    some (⟨#[]⟩,false)
   else
    (z3 r_0.fKind).bind fun r8=>
    bif (decide ((r8.size+r6.size)≤9223372036854775807)) then
    some ((r8++r6),true)
    else none
  else
   some (⟨#[]⟩,false)
noncomputable def impl_RecText:Nh:=E_impl_RecText impl_varText impl_in impl_ThingText impl_oneByte
theorem Ot:Tells ctx PP 44 cv31 cv30 (fun a=>impl_RecText a):=fn_ok0 (hc Ac (hc IZ (hc L6 (hc Ur hl_nil)))) Tryz.func44 ((fun z0 z1 z2 z3 a=>by kernel_rfl:∀ z0 z1 z2 z3,EntryIs0 ctx PP 44 [] [(67,Bc z0),(45,UY z1),(84,O6 z2),(85,Wl z3)] cv31 cv30 fun a=>E_impl_RecText z0 z1 z2 z3 a) impl_varText impl_in impl_ThingText impl_oneByte)
noncomputable def Rt {γ:Type} (F:Nh):Hd ctx γ:=hdl cv31.dec (fun a=>F a) cv30.enc
abbrev Lm:=ByteArray→Option (SRec×Bool)
noncomputable def E_impl_ReadRec (z0:Kt) (z1:Ya) (z2:Nh) (text_0:ByteArray):Option (SRec×Bool):=
 bif ((ByteArray.toList text_0) == (ByteArray.toList ⟨#[]⟩)) then
 some (⟨0,⟨#[]⟩,0,⟨0,0,false,false,false,false,⟨#[]⟩,0⟩⟩,false)
 else
 bif ((decide ((0:Int)≤(0:Int))) && (decide (0<(text_0.size:Int)))) then
 bif ((w64 (bt text_0 0)) == 1) then
  bif ((decide ((0:Int)≤(1:Int))) && (decide (1≤(text_0.size:Int)))) then
  (z2 ⟨(w64 (bt text_0 0)),(text_0.extract (1:Int).toNat text_0.size),0,⟨0,0,false,false,false,false,⟨#[]⟩,0⟩⟩).bind fun r0=>
  bif (!r0.2) then
  some (⟨0,⟨#[]⟩,0,⟨0,0,false,false,false,false,⟨#[]⟩,0⟩⟩,false)
  else
  bif (!((ByteArray.toList r0.1) == (ByteArray.toList text_0))) then
   some (⟨0,⟨#[]⟩,0,⟨0,0,false,false,false,false,⟨#[]⟩,0⟩⟩,false)
  else
   some (⟨(w64 (bt text_0 0)),(text_0.extract (1:Int).toNat text_0.size),0,⟨0,0,false,false,false,false,⟨#[]⟩,0⟩⟩,true)
  else none
 else
  bif ((w64 (bt text_0 0)) == 3) then
  bif ((decide ((0:Int)≤(1:Int))) && (decide (1≤(text_0.size:Int)))) then
  (z0 (text_0.extract (1:Int).toNat text_0.size)).bind fun r1=>
  (z2 ⟨(w64 (bt text_0 0)),⟨#[]⟩,0,r1.1⟩).bind fun r2=>
  bif (!r2.2) then
   some (⟨0,⟨#[]⟩,0,⟨0,0,false,false,false,false,⟨#[]⟩,0⟩⟩,false)
  else
   bif (!((ByteArray.toList r2.1) == (ByteArray.toList text_0))) then
   some (⟨0,⟨#[]⟩,0,⟨0,0,false,false,false,false,⟨#[]⟩,0⟩⟩,false)
   else
   some (⟨(w64 (bt text_0 0)),⟨#[]⟩,0,r1.1⟩,true)
  else none
  else
  (z1 text_0 1).bind fun r3=>
  (z2 ⟨(w64 (bt text_0 0)),⟨#[]⟩,r3.1,⟨0,0,false,false,false,false,⟨#[]⟩,0⟩⟩).bind fun r4=>
  bif (!r4.2) then
   some (⟨0,⟨#[]⟩,0,⟨0,0,false,false,false,false,⟨#[]⟩,0⟩⟩,false)
  else
   bif (!((ByteArray.toList r4.1) == (ByteArray.toList text_0))) then
   some (⟨0,⟨#[]⟩,0,⟨0,0,false,false,false,false,⟨#[]⟩,0⟩⟩,false)
   else
   some (⟨(w64 (bt text_0 0)),⟨#[]⟩,r3.1,⟨0,0,false,false,false,false,⟨#[]⟩,0⟩⟩,true)
 else none
noncomputable def impl_ReadRec:Lm:=E_impl_ReadRec impl_ReadThing impl_ReadVar impl_RecText
theorem UAD:Tells ctx PP 29 cv6 cv58 (fun a=>impl_ReadRec a):=fn_ok0 (hc SAD (hc Rl (hc Ot hl_nil))) Tryz.func29 ((fun z0 z1 z2 a=>by kernel_rfl:∀ z0 z1 z2,EntryIs0 ctx PP 29 [] [(66,TAD z0),(60,Og z1),(44,Rt z2)] cv6 cv58 fun a=>E_impl_ReadRec z0 z1 z2 a) impl_ReadThing impl_ReadVar impl_RecText)
noncomputable def P6 {γ:Type} (F:Lm):Hd ctx γ:=hdl cv6.dec (fun a=>F a) cv58.enc
abbrev Oh:=ByteArray→Option (ByteArray×Bool)
noncomputable def E_impl_Frame (z0:OY) (z1:XZ) (z2:Qg) (z3:WZ) (text_0:ByteArray):Option (ByteArray×Bool):=
 (z0 (text_0.size:Int) 1 9000).bind fun r0=>
 bif (!r0) then
 some (⟨#[]⟩,false)
 else
 (z1 (text_0.size:Int)).bind fun r1=>
 (z2 text_0).bind fun r2=>
 (z3 r2).bind fun r3=>
 bif (decide ((r1.size+r3.size)≤9223372036854775807)) then
 bif (decide (((r1++r3).size+text_0.size)≤9223372036854775807)) then
 some (((r1++r3)++text_0),true)
 else none
 else none
noncomputable def impl_Frame:Oh:=E_impl_Frame impl_in impl_varText impl_SumOf impl_fourBytes
theorem U6:Tells ctx PP 30 cv6 cv30 (fun a=>impl_Frame a):=fn_ok0 (hc IZ (hc Ac (hc Y3 (hc Sl hl_nil)))) Tryz.func30 ((fun z0 z1 z2 z3 a=>by kernel_rfl:∀ z0 z1 z2 z3,EntryIs0 ctx PP 30 [] [(45,UY z0),(67,Bc z1),(62,Sr z2),(61,Zb z3)] cv6 cv30 fun a=>E_impl_Frame z0 z1 z2 z3 a) impl_in impl_varText impl_SumOf impl_fourBytes)
noncomputable def Tt {γ:Type} (F:Oh):Hd ctx γ:=hdl cv6.dec (fun a=>F a) cv30.enc
abbrev Ut:=ByteArray→ByteArray→Option ((List SRec)×Int)
inductive Ph where
 | c0 (key_0:ByteArray) (at_9:Int) (v_24:Int) (v_25:Int) (out_8:(List SRec)) (v_23:(List ByteArray))
noncomputable def V6:Ph→LI
 | .c0 key_0 at_9 v_24 v_25 out_8 v_23=>(tdo Tryz.f8 1000,[(0,[.one (.str key_0)]),(8,[.one (.own 560)]),(9,[.one (.int .i64 at_9)]),(23,[.one (.own 1520)]),(24,[.one (.int .i64 v_24)]),(25,[.one (.int .i64 v_25)])],[(560,.sl 32 out_8),(1520,.sl 9 v_23)])
noncomputable def E_impl_ReadBook (z0:Ul) (z1:Gm) (z2:Lm) (z3:Oh) (k:Ph→Option ((List SRec)×Int)) (key_0:ByteArray) (file_1:ByteArray):Option ((List SRec)×Int):=
 (z0 file_1).bind fun r0=>
 k (.c0 key_0 0 (r0.1.length:Int) 0 [] r0.1)
noncomputable def B_impl_ReadBook (z0:Ul) (z1:Gm) (z2:Lm) (z3:Oh) (k:Ph→Option ((List SRec)×Int)):Ph→Option ((List SRec)×Int)
 | .c0 key_0 at_9 v_24 v_25 out_8 v_23=>
 bif (decide (v_25<v_24)) then
  bif ((decide (0≤v_25)) && (decide (v_25<(v_23.length:Int)))) then
  (z1 key_0 (w64 (v_25+1)) (v_23.getD v_25.toNat (⟨#[]⟩:ByteArray))).bind fun r0=>
  (z2 r0.1).bind fun r1=>
  bif (!r0.2) then
  some (out_8,at_9)
  else
  bif (!r1.2) then
   some (out_8,at_9)
  else
   bif (decide (((out_8.length+1)*80)≤140737488355328)) then
   (z3 (v_23.getD v_25.toNat (⟨#[]⟩:ByteArray))).bind fun r2=>
   k (.c0 key_0 (w64 (at_9+(r2.1.size:Int))) v_24 (w64 (v_25+1)) (out_8++[r1.1]) v_23)
   else none
  else none
 else
  some (out_8,at_9)
noncomputable def L_impl_ReadBook:Nat→Ph→Option ((List SRec)×Int)
 | 0,_=>none
 | m+1,s=>B_impl_ReadBook impl_Unframe impl_OpenText impl_ReadRec impl_Frame (L_impl_ReadBook m) s
noncomputable def impl_ReadBook:Ut:=E_impl_ReadBook impl_Unframe impl_OpenText impl_ReadRec impl_Frame (L_impl_ReadBook gas)
theorem VAD:Tells ctx PP 8 cv43 cv59 (fun a=>impl_ReadBook a.1 a.2):=
 have b:∀ z0 z1 z2 z3,CutIs ctx PP 8 Tryz.f8 [] [(27,J4 z0),(28,F6 z1),(29,P6 z2),(30,Tt z3)] cv59 V6 (B_impl_ReadBook z0 z1 z2 z3):=fun z0 z1 z2 z3 _ s=>by cases s <;> kernel_rfl
 have e:∀ z0 z1 z2 z3,EntryIs ctx PP 8 [] [(27,J4 z0),(28,F6 z1),(29,P6 z2),(30,Tt z3)] cv43 cv59 V6 (fun k a=>E_impl_ReadBook z0 z1 z2 z3 k a.1 a.2):=fun z0 z1 z2 z3 _ a=>by kernel_rfl
 fn_ok (hc LAC (hc GAD (hc UAD (hc U6 hl_nil)))) Tryz.func8 (fun s s' h=>by cases s;cases s';cases h;rfl) (fun _=>rfl) (fun _ _=>rfl) (b impl_Unframe impl_OpenText impl_ReadRec impl_Frame) (e impl_Unframe impl_OpenText impl_ReadRec impl_Frame) gas
noncomputable def WAD {γ:Type} (F:Ut):Hd ctx γ:=hdl cv43.dec (fun a=>F a.1 a.2) cv59.enc
abbrev Vt:=Option SBook
noncomputable def Xt (z0:Dh) (z1:Xg)  : Option SBook:=
 (z0 ⟨#[]⟩).bind fun r0=>
 (z1 32).bind fun r1=>
 some ⟨r0,0,[],0,r1,0⟩
noncomputable def Qh:Vt:=Xt impl_DigestOf impl_zeros
theorem XAD:Tells ctx PP 39 cv3 cv16 (fun _=>Qh):=fn_ok0 (hc Ns (hc Xr hl_nil)) Tryz.func39 ((fun z0 z1 _=>by kernel_rfl:∀ z0 z1,EntryIs0 ctx PP 39 [] [(79,Qs z0),(80,Yr z1)] cv3 cv16 fun _=>Xt z0 z1) impl_DigestOf impl_zeros)
noncomputable def YAD {γ:Type} (F:Vt):Hd ctx γ:=hdl cv3.dec (fun _=>F) cv16.enc
abbrev Rh:=SBook→Option SBook
noncomputable def Yt (b_0:SBook):Option SBook:=
 bif (decide ((b_0.fThings.length*48)≤140737488355328)) then
 some b_0
 else none
noncomputable def PZ:Rh:=Yt
theorem X6:Tells ctx PP 77 cv32 cv16 (fun a=>PZ a):=fn_ok0 hl_nil Tryz.func77 (fun a=>by kernel_rfl:EntryIs0 ctx PP 77 [] [] cv32 cv16 fun a=>Yt a)
noncomputable def Zt {γ:Type} (F:Rh):Hd ctx γ:=hdl cv32.dec (fun a=>F a) cv16.enc
abbrev Au:=SBook→Option Bool
inductive Uh where
 | c0 (v_6:(List SThing)) (v_7:Int) (v_8:Int) (b_1:SBook)
noncomputable def Y6:Uh→LI
 | .c0 v_6 v_7 v_8 b_1=>(tdo Tryz.f106 104,[(1,[.one (.ptr 64 0)]),(6,[.one (.rsl 30 v_6)]),(7,[.one (.int .i64 v_7)]),(8,[.one (.int .i64 v_8)])],[(64,.var [.str b_1.fWord,.int .i64 b_1.fTries,.rsl 30 b_1.fThings,.int .i64 b_1.fLast,.str b_1.fChain,.int .i64 b_1.fCount])])
noncomputable def Du (z0:Jh) (z1:OY) (k:Uh→Option Bool) (b_0:SBook):Option Bool:=
 k (.c0 b_0.fThings (b_0.fThings.length:Int) 0 b_0)
noncomputable def Om (z0:Jh) (z1:OY) (k:Uh→Option Bool):Uh→Option Bool
 | .c0 v_6 v_7 v_8 b_1=>
 bif (decide (v_8<v_7)) then
  bif ((decide (0≤v_8)) && (decide (v_8<(v_6.length:Int)))) then
  (z0 (v_6.getD v_8.toNat (⟨0,0,false,false,false,false,⟨#[]⟩,0⟩:SThing))).bind fun r0=>
  bif (!r0) then
  some false
  else
  bif (decide ((v_6.getD v_8.toNat (⟨0,0,false,false,false,false,⟨#[]⟩,0⟩:SThing)).fId > b_1.fLast)) then
   some false
  else
   bif (decide (v_8 > 0)) then
   bif ((decide (0≤(w64 (v_8 - 1)))) && (decide ((w64 (v_8 - 1))<(b_1.fThings.length:Int)))) then
   bif (decide ((b_1.fThings.getD (w64 (v_8 - 1)).toNat (⟨0,0,false,false,false,false,⟨#[]⟩,0⟩:SThing)).fId≥(v_6.getD v_8.toNat (⟨0,0,false,false,false,false,⟨#[]⟩,0⟩:SThing)).fId)) then
    some false
   else
    k (.c0 v_6 v_7 (w64 (v_8+1)) b_1)
   else none
   else
   k (.c0 v_6 v_7 (w64 (v_8+1)) b_1)
  else none
 else
  bif ((b_1.fWord.size:Int) == 32) then
  bif ((b_1.fChain.size:Int) == 32) then
   (z1 b_1.fTries 0 3).bind fun r1=>
   bif r1 then
   bif (decide ((b_1.fThings.length:Int)≤8)) then
    (z1 b_1.fLast 0 1000).bind fun r2=>
    bif r2 then
    (z1 b_1.fCount 0 10000).bind fun r3=>
    some r3
    else
    some false
   else
    some false
   else
   some false
  else
   some false
  else
  some false
noncomputable def Ic:Nat→Uh→Option Bool
 | 0,_=>none
 | m+1,s=>Om impl_ThingOk impl_in (Ic m) s
noncomputable def Vh:Au:=Du impl_ThingOk impl_in (Ic gas)
theorem ZAD:Tells ctx PP 106 cv32 cv1 (fun a=>Vh a):=
 have b:∀ z0 z1,CutIs ctx PP 106 Tryz.f106 [] [(119,Gt z0),(45,UY z1)] cv1 Y6 (Om z0 z1):=fun z0 z1 _ s=>by cases s <;> kernel_rfl
 have e:∀ z0 z1,EntryIs ctx PP 106 [] [(119,Gt z0),(45,UY z1)] cv32 cv1 Y6 (fun k a=>Du z0 z1 k a):=fun z0 z1 _ a=>by kernel_rfl
 fn_ok (hc G6 (hc IZ hl_nil)) Tryz.func106 (fun s s' h=>by cases s;cases s';(repeat cases ‹SBook›);cases h;rfl) (fun _=>rfl) (fun _ _=>rfl) (b impl_ThingOk impl_in) (e impl_ThingOk impl_in) gas
noncomputable def AAE {γ:Type} (F:Au):Hd ctx γ:=hdl cv32.dec (fun a=>F a) cv1.enc
abbrev Pm:=SBook→Int→Option Int
inductive Wh where
 | c0 (id_1:Int) (v_8:(List SThing)) (v_9:Int) (v_10:Int)
noncomputable def D7:Wh→LI
 | .c0 id_1 v_8 v_9 v_10=>(tdo Tryz.f108 104,[(1,[.one (.int .i64 id_1)]),(8,[.one (.rsl 30 v_8)]),(9,[.one (.int .i64 v_9)]),(10,[.one (.int .i64 v_10)])],[])
noncomputable def F7 (k:Wh→Option Int) (b_0:SBook) (id_1:Int):Option Int:=
 k (.c0 id_1 b_0.fThings (b_0.fThings.length:Int) 0)
noncomputable def Qm (k:Wh→Option Int):Wh→Option Int
 | .c0 id_1 v_8 v_9 v_10=>
 bif (decide (v_10<v_9)) then
  bif ((decide (0≤v_10)) && (decide (v_10<(v_8.length:Int)))) then
  bif ((v_8.getD v_10.toNat (⟨0,0,false,false,false,false,⟨#[]⟩,0⟩:SThing)).fId == id_1) then
  some v_10
  else
  k (.c0 id_1 v_8 v_9 (w64 (v_10+1)))
  else none
 else
  some (-(1:Int))
noncomputable def Jc:Nat→Wh→Option Int
 | 0,_=>none
 | m+1,s=>Qm (Jc m) s
noncomputable def Lc:Pm:=F7 (Jc gas)
theorem G7:Tells ctx PP 108 cv33 cv27 (fun a=>Lc a.1 a.2):=
 have b:CutIs ctx PP 108 Tryz.f108 [] [] cv27 D7 (Qm):=fun _ s=>by cases s <;> kernel_rfl
 have e:EntryIs ctx PP 108 [] [] cv33 cv27 D7 (fun k a=>F7 k a.1 a.2):=fun _ a=>by kernel_rfl
 fn_ok hl_nil Tryz.func108 (fun s s' h=>by cases s;cases s';cases h;rfl) (fun _=>rfl) (fun _ _=>rfl) b e gas
noncomputable def H7 {γ:Type} (F:Pm):Hd ctx γ:=hdl cv33.dec (fun a=>F a.1 a.2) cv27.enc
abbrev Eu:=SThing→SThing→Option Bool
noncomputable def Gu (x_0:SThing) (y_1:SThing):Option Bool:=
 bif (y_1.fKind == x_0.fKind) then
 bif ((ByteArray.toList y_1.fValue) == (ByteArray.toList x_0.fValue)) then
  bif (y_1.fSigns == x_0.fSigns) then
  bif (y_1.fWraps == x_0.fWraps) then
   bif (decide (y_1.fNext≥x_0.fNext)) then
   bif y_1.fHidden then
    bif y_1.fFixed then
    some true
    else
    some (!x_0.fFixed)
   else
    bif (!x_0.fHidden) then
    bif y_1.fFixed then
     some true
    else
     some (!x_0.fFixed)
    else
    some false
   else
   some false
  else
   some false
  else
  some false
 else
  some false
 else
 some false
noncomputable def Xh:Eu:=Gu
theorem BAE:Tells ctx PP 126 cv35 cv1 (fun a=>Xh a.1 a.2):=fn_ok0 hl_nil Tryz.func126 (fun a=>by kernel_rfl:EntryIs0 ctx PP 126 [] [] cv35 cv1 fun a=>Gu a.1 a.2)
noncomputable def CAE {γ:Type} (F:Eu):Hd ctx γ:=hdl cv35.dec (fun a=>F a.1 a.2) cv1.enc
abbrev Hu:=SBook→SThing→Option (Bool×SBook)
noncomputable def Iu (z0:Pm) (z1:Eu) (b_0:SBook) (x_1:SThing):Option (Bool×SBook):=
 (z0 b_0 x_1.fId).bind fun r0=>
 bif (decide (r0≥0)) then
 bif ((decide (0≤r0)) && (decide (r0<(b_0.fThings.length:Int)))) then
 (z1 (b_0.fThings.getD r0.toNat (⟨0,0,false,false,false,false,⟨#[]⟩,0⟩:SThing)) x_1).bind fun r1=>
 bif (!r1) then
  some (false,b_0)
 else
  bif ((decide (0≤r0)) && (decide (r0<(b_0.fThings.length:Int)))) then
  some (true,⟨b_0.fWord,b_0.fTries,(b_0.fThings.set r0.toNat x_1),b_0.fLast,b_0.fChain,b_0.fCount⟩)
  else none
 else none
 else
 bif (x_1.fId != (w64 (b_0.fLast+1))) then
  some (false,b_0)
 else
  bif (decide ((b_0.fThings.length:Int)≥8)) then
  some (false,b_0)
  else
  bif (decide (((b_0.fThings.length+1)*48)≤140737488355328)) then
  some (true,⟨b_0.fWord,b_0.fTries,(b_0.fThings++[x_1]),x_1.fId,b_0.fChain,b_0.fCount⟩)
  else none
noncomputable def Yh:Hu:=Iu Lc Xh
theorem DAE:Tells ctx PP 107 cv74 cv75 (fun a=>Yh a.1 a.2):=fn_ok0 (hc G7 (hc BAE hl_nil)) Tryz.func107 ((fun z0 z1 a=>by kernel_rfl:∀ z0 z1,EntryIs0 ctx PP 107 [0] [(108,H7 z0),(126,CAE z1)] cv74 cv75 fun a=>Iu z0 z1 a.1 a.2) Lc Xh)
noncomputable def EAE {γ:Type} (F:Hu):Hd ctx γ:=hdl cv74.dec (fun a=>F a.1 a.2) cv75.enc
abbrev Sm:=SBook→SRec→Option (SBook×Bool)
noncomputable def Ju (z0:Nh) (z1:Au) (z2:Rh) (z3:Hu) (z4:Pm) (z5:Dh) (b_0:SBook) (r_1:SRec):Option (SBook×Bool):=
 (z0 r_1).bind fun r0=>
 (z1 b_0).bind fun r1=>
 bif (!r1) then
 some (⟨⟨#[]⟩,0,[],0,⟨#[]⟩,0⟩,false)
 else
 bif (!r0.2) then
  some (⟨⟨#[]⟩,0,[],0,⟨#[]⟩,0⟩,false)
 else
  bif (decide (b_0.fCount≥10000)) then
  some (⟨⟨#[]⟩,0,[],0,⟨#[]⟩,0⟩,false)
  else
  (z2 b_0).bind fun r2=>
  bif (r_1.fKind == 1) then
   bif (decide ((b_0.fChain.size+r0.1.size)≤9223372036854775807)) then
   (z5 (b_0.fChain++r0.1)).bind fun r3=>
   some (⟨r_1.fText,0,r2.fThings,r2.fLast,r3,(w64 (r2.fCount+1))⟩,true)
   else none
  else
   bif (r_1.fKind == 2) then
   bif (decide ((b_0.fChain.size+r0.1.size)≤9223372036854775807)) then
   (z5 (b_0.fChain++r0.1)).bind fun r4=>
   some (⟨r2.fWord,r_1.fNum,r2.fThings,r2.fLast,r4,(w64 (r2.fCount+1))⟩,true)
   else none
   else
   bif (r_1.fKind == 3) then
    (z3 r2 r_1.fThing).bind fun r5=>
    bif (!r5.1) then
    some (⟨⟨#[]⟩,0,[],0,⟨#[]⟩,0⟩,false)
    else
    bif (decide ((b_0.fChain.size+r0.1.size)≤9223372036854775807)) then
    (z5 (b_0.fChain++r0.1)).bind fun r6=>
    some (⟨r5.2.fWord,r5.2.fTries,r5.2.fThings,r5.2.fLast,r6,(w64 (r5.2.fCount+1))⟩,true)
    else none
   else
    bif (r_1.fKind == 4) then
    (z4 b_0 r_1.fNum).bind fun r7=>
    bif (decide (r7<0)) then
     some (⟨⟨#[]⟩,0,[],0,⟨#[]⟩,0⟩,false)
    else
     bif ((decide (0≤r7)) && (decide (r7≤(b_0.fThings.length:Int)))) then
     bif (decide ((((b_0.fThings.take r7.toNat).drop 0).length*48)≤140737488355328)) then
     bif ((decide (0≤(w64 (r7+1)))) && (decide ((w64 (r7+1))≤(b_0.fThings.length:Int)))) then
     bif (decide (((((b_0.fThings.take r7.toNat).drop 0).length+((b_0.fThings.take b_0.fThings.length).drop (w64 (r7+1)).toNat).length)*48)≤140737488355328)) then
     bif (decide ((b_0.fChain.size+r0.1.size)≤9223372036854775807)) then
     (z5 (b_0.fChain++r0.1)).bind fun r8=>
     some (⟨r2.fWord,r2.fTries,(((b_0.fThings.take r7.toNat).drop 0)++((b_0.fThings.take b_0.fThings.length).drop (w64 (r7+1)).toNat)),r2.fLast,r8,(w64 (r2.fCount+1))⟩,true)
     else none
     else none
     else none
     else none
     else none
    else
    bif (decide ((b_0.fChain.size+r0.1.size)≤9223372036854775807)) then
    (z5 (b_0.fChain++r0.1)).bind fun r9=>
    some (⟨r2.fWord,r2.fTries,r2.fThings,r2.fLast,r9,(w64 (r2.fCount+1))⟩,true)
    else none
noncomputable def Za:Sm:=Ju impl_RecText Vh PZ Yh Lc impl_DigestOf
theorem FAE:Tells ctx PP 78 cv38 cv39 (fun a=>Za a.1 a.2):=fn_ok0 (hc Ot (hc ZAD (hc X6 (hc DAE (hc G7 (hc Ns hl_nil)))))) Tryz.func78 ((fun z0 z1 z2 z3 z4 z5 a=>by kernel_rfl:∀ z0 z1 z2 z3 z4 z5,EntryIs0 ctx PP 78 [] [(44,Rt z0),(106,AAE z1),(77,Zt z2),(107,EAE z3),(108,H7 z4),(79,Qs z5)] cv38 cv39 fun a=>Ju z0 z1 z2 z3 z4 z5 a.1 a.2) impl_RecText Vh PZ Yh Lc impl_DigestOf)
noncomputable def I7 {γ:Type} (F:Sm):Hd ctx γ:=hdl cv38.dec (fun a=>F a.1 a.2) cv39.enc
abbrev Ku:=SBook→(List SRec)→Option (SBook×Bool)
inductive Zh where
 | c0 (v_13:(List SRec)) (v_14:Int) (v_15:Int) (v_4c0:ByteArray) (v_4c1:Int) (v_4c3:Int) (v_4c4:ByteArray) (v_4c5:Int) (out_6c0:ByteArray) (out_6c1:Int) (out_6c3:Int) (out_6c4:ByteArray) (out_6c5:Int) (v_4r2:(List SThing)) (out_6r2:(List SThing))
noncomputable def J7:Zh→LI
 | .c0 v_13 v_14 v_15 v_4c0 v_4c1 v_4c3 v_4c4 v_4c5 out_6c0 out_6c1 out_6c3 out_6c4 out_6c5 v_4r2 out_6r2=>(tdo Tryz.f38 232,[(4,[.one (.ptr 256 0)]),(6,[.one (.ptr 384 0)]),(13,[.one (.rsl 32 v_13)]),(14,[.one (.int .i64 v_14)]),(15,[.one (.int .i64 v_15)])],[(256,.var [.str v_4c0,.int .i64 v_4c1,.own 1016386,.int .i64 v_4c3,.str v_4c4,.int .i64 v_4c5]),(384,.var [.str out_6c0,.int .i64 out_6c1,.own 1024578,.int .i64 out_6c3,.str out_6c4,.int .i64 out_6c5]),(1016386,.sl 30 v_4r2),(1024578,.sl 30 out_6r2)])
noncomputable def Lu (z0:Rh) (z1:Sm) (k:Zh→Option (SBook×Bool)) (b_0:SBook) (list_1:(List SRec)):Option (SBook×Bool):=
 (z0 b_0).bind fun r0=>
 k (.c0 list_1 (list_1.length:Int) 0 ⟨#[]⟩ 0 0 ⟨#[]⟩ 0 r0.fWord r0.fTries r0.fLast r0.fChain r0.fCount [] r0.fThings)
noncomputable def Um (z0:Rh) (z1:Sm) (k:Zh→Option (SBook×Bool)):Zh→Option (SBook×Bool)
 | .c0 v_13 v_14 v_15 v_4c0 v_4c1 v_4c3 v_4c4 v_4c5 out_6c0 out_6c1 out_6c3 out_6c4 out_6c5 v_4r2 out_6r2=>
 bif (decide (v_15<v_14)) then
  bif ((decide (0≤v_15)) && (decide (v_15<(v_13.length:Int)))) then
  (z1 ⟨out_6c0,out_6c1,out_6r2,out_6c3,out_6c4,out_6c5⟩ (v_13.getD v_15.toNat (⟨0,⟨#[]⟩,0,⟨0,0,false,false,false,false,⟨#[]⟩,0⟩⟩:SRec))).bind fun r0=>
  bif (!r0.2) then
  some (⟨⟨#[]⟩,0,[],0,⟨#[]⟩,0⟩,false)
  else
  k (.c0 v_13 v_14 (w64 (v_15+1)) v_4c0 v_4c1 v_4c3 v_4c4 v_4c5 r0.1.fWord r0.1.fTries r0.1.fLast r0.1.fChain r0.1.fCount v_4r2 r0.1.fThings)
  else none
 else
  some (⟨out_6c0,out_6c1,out_6r2,out_6c3,out_6c4,out_6c5⟩,true)
noncomputable def Ai:Nat→Zh→Option (SBook×Bool)
 | 0,_=>none
 | m+1,s=>Um PZ Za (Ai m) s
noncomputable def Ci:Ku:=Lu PZ Za (Ai gas)
theorem GAE:Tells ctx PP 38 cv76 cv39 (fun a=>Ci a.1 a.2):=
 have b:∀ z0 z1,CutIs ctx PP 38 Tryz.f38 [] [(77,Zt z0),(78,I7 z1)] cv39 J7 (Um z0 z1):=fun z0 z1 _ s=>by cases s <;> kernel_rfl
 have e:∀ z0 z1,EntryIs ctx PP 38 [] [(77,Zt z0),(78,I7 z1)] cv76 cv39 J7 (fun k a=>Lu z0 z1 k a.1 a.2):=fun z0 z1 _ a=>by kernel_rfl
 fn_ok (hc X6 (hc FAE hl_nil)) Tryz.func38 (fun s s' h=>by cases s;cases s';cases h;rfl) (fun _=>rfl) (fun _ _=>rfl) (b PZ Za) (e PZ Za) gas
noncomputable def HAE {γ:Type} (F:Ku):Hd ctx γ:=hdl cv76.dec (fun a=>F a.1 a.2) cv39.enc
abbrev Nu:=SDisk→Option Bool
inductive Di where
 | c0 (v_6:(List SFile)) (v_7:Int) (v_8:Int) (d_1:SDisk)
noncomputable def N7:Di→LI
 | .c0 v_6 v_7 v_8 d_1=>(tdo Tryz.f40 104,[(1,[.one (.ptr 64 0)]),(6,[.one (.rsl 81 v_6)]),(7,[.one (.int .i64 v_7)]),(8,[.one (.int .i64 v_8)])],[(64,.var [.rsl 81 d_1.fFiles])])
noncomputable def Ou (z0:OY) (k:Di→Option Bool) (d_0:SDisk):Option Bool:=
 k (.c0 d_0.fFiles (d_0.fFiles.length:Int) 0 d_0)
noncomputable def Vm (z0:OY) (k:Di→Option Bool):Di→Option Bool
 | .c0 v_6 v_7 v_8 d_1=>
 bif (decide (v_8<v_7)) then
  bif ((decide (0≤v_8)) && (decide (v_8<(v_6.length:Int)))) then
  (z0 ((v_6.getD v_8.toNat (⟨⟨#[]⟩,⟨#[]⟩,0⟩:SFile)).fName.size:Int) 1 8).bind fun r0=>
  bif (!r0) then
  some false
  else
  bif (decide (((v_6.getD v_8.toNat (⟨⟨#[]⟩,⟨#[]⟩,0⟩:SFile)).fText.size:Int) > 20000)) then
   some false
  else
   (z0 (v_6.getD v_8.toNat (⟨⟨#[]⟩,⟨#[]⟩,0⟩:SFile)).fKept 0 ((v_6.getD v_8.toNat (⟨⟨#[]⟩,⟨#[]⟩,0⟩:SFile)).fText.size:Int)).bind fun r1=>
   bif (!r1) then
   some false
   else
   bif (decide (v_8 > 0)) then
    bif ((decide (0≤(w64 (v_8 - 1)))) && (decide ((w64 (v_8 - 1))<(d_1.fFiles.length:Int)))) then
    bif (!(Op.bytesLess (ByteArray.toList (d_1.fFiles.getD (w64 (v_8 - 1)).toNat (⟨⟨#[]⟩,⟨#[]⟩,0⟩:SFile)).fName) (ByteArray.toList (v_6.getD v_8.toNat (⟨⟨#[]⟩,⟨#[]⟩,0⟩:SFile)).fName))) then
    some false
    else
    k (.c0 v_6 v_7 (w64 (v_8+1)) d_1)
    else none
   else
    k (.c0 v_6 v_7 (w64 (v_8+1)) d_1)
  else none
 else
  some (decide ((d_1.fFiles.length:Int)≤30))
noncomputable def Ei:Nat→Di→Option Bool
 | 0,_=>none
 | m+1,s=>Vm impl_in (Ei m) s
noncomputable def Gi:Nu:=Ou impl_in (Ei gas)
theorem IAE:Tells ctx PP 40 cv66 cv1 (fun a=>Gi a):=
 have b:∀ z0,CutIs ctx PP 40 Tryz.f40 [] [(45,UY z0)] cv1 N7 (Vm z0):=fun z0 _ s=>by cases s <;> kernel_rfl
 have e:∀ z0,EntryIs ctx PP 40 [] [(45,UY z0)] cv66 cv1 N7 (fun k a=>Ou z0 k a):=fun z0 _ a=>by kernel_rfl
 fn_ok (hc IZ hl_nil) Tryz.func40 (fun s s' h=>by cases s;cases s';(repeat cases ‹SDisk›);cases h;rfl) (fun _=>rfl) (fun _ _=>rfl) (b impl_in) (e impl_in) gas
noncomputable def JAE {γ:Type} (F:Nu):Hd ctx γ:=hdl cv66.dec (fun a=>F a) cv1.enc
abbrev Sj:=ByteArray→SDisk→Option (SBook×(List SAct)×Bool)
noncomputable def Qu (z0:Lr) (z1:Ut) (z2:Vt) (z3:Ku) (z4:Nu) (z5:Ol) (key_0:ByteArray) (d_1:SDisk):Option (SBook×(List SAct)×Bool):=
 (z0 d_1 ⟨#[98,111,111,107]⟩).bind fun r0=>
 (z1 key_0 r0.1).bind fun r1=>
 z2.bind fun r2=>
 (z3 r2 r1.1).bind fun r3=>
 (z4 d_1).bind fun r4=>
 bif (!r4) then
 some (⟨⟨#[]⟩,0,[],0,⟨#[]⟩,0⟩,([],false))
 else
 bif (!r3.2) then
  some (⟨⟨#[]⟩,0,[],0,⟨#[]⟩,0⟩,([],false))
 else
  (z5 d_1 ⟨#[98,111,111,107,43]⟩).bind fun r5=>
  bif (decide (r5≥0)) then
  bif (r1.2 == (r0.1.size:Int)) then
   some (r3.1,([⟨4,⟨#[98,111,111,107,43]⟩,⟨#[]⟩,⟨#[]⟩⟩],true))
  else
   bif ((decide (0≤r1.2)) && (decide (r1.2≤(r0.1.size:Int)))) then
   some (r3.1,(([(⟨4,⟨#[98,111,111,107,43]⟩,⟨#[]⟩,⟨#[]⟩⟩:SAct)]++[(⟨1,⟨#[98,111,111,107,43]⟩,(r0.1.extract 0 r1.2.toNat),⟨#[]⟩⟩:SAct),(⟨2,⟨#[98,111,111,107,43]⟩,⟨#[]⟩,⟨#[]⟩⟩:SAct),(⟨3,⟨#[98,111,111,107,43]⟩,⟨#[]⟩,⟨#[98,111,111,107]⟩⟩:SAct)]),true))
   else none
  else
  bif (r1.2 == (r0.1.size:Int)) then
   some (r3.1,([],true))
  else
   bif ((decide (0≤r1.2)) && (decide (r1.2≤(r0.1.size:Int)))) then
   some (r3.1,([⟨1,⟨#[98,111,111,107,43]⟩,(r0.1.extract 0 r1.2.toNat),⟨#[]⟩⟩,⟨2,⟨#[98,111,111,107,43]⟩,⟨#[]⟩,⟨#[]⟩⟩,⟨3,⟨#[98,111,111,107,43]⟩,⟨#[]⟩,⟨#[98,111,111,107]⟩⟩],true))
   else none
noncomputable def RZ:Sj:=Qu Ig impl_ReadBook Qh Ci Gi Xa
theorem U9:Tells ctx PP 13 cv77 cv78 (fun a=>RZ a.1 a.2):=fn_ok0 (hc HAC (hc VAD (hc XAD (hc GAE (hc IAE (hc J3 hl_nil)))))) Tryz.func13 ((fun z0 z1 z2 z3 z4 z5 a=>by kernel_rfl:∀ z0 z1 z2 z3 z4 z5,EntryIs0 ctx PP 13 [] [(37,IAC z0),(8,WAD z1),(39,YAD z2),(38,HAE z3),(40,JAE z4),(41,O3 z5)] cv77 cv78 fun a=>Qu z0 z1 z2 z3 z4 z5 a.1 a.2) Ig impl_ReadBook Qh Ci Gi Xa)
noncomputable def Vw {γ:Type} (F:Sj):Hd ctx γ:=hdl cv77.dec (fun a=>F a.1 a.2) cv78.enc
abbrev Tj:=SBook→SBook→Option Bool
inductive Ii where
 | c0 (i_5:Int) (a_2:SBook) (b_3:SBook)
noncomputable def O7:Ii→LI
 | .c0 i_5 a_2 b_3=>(tdo Tryz.f14 464,[(2,[.one (.ptr 128 0)]),(3,[.one (.ptr 192 0)]),(5,[.one (.int .i64 i_5)])],[(128,.var [.str a_2.fWord,.int .i64 a_2.fTries,.rsl 30 a_2.fThings,.int .i64 a_2.fLast,.str a_2.fChain,.int .i64 a_2.fCount]),(192,.var [.str b_3.fWord,.int .i64 b_3.fTries,.rsl 30 b_3.fThings,.int .i64 b_3.fLast,.str b_3.fChain,.int .i64 b_3.fCount])])
noncomputable def Ru (k:Ii→Option Bool) (a_0:SBook) (b_1:SBook):Option Bool:=
 bif (!((ByteArray.toList a_0.fWord) == (ByteArray.toList b_1.fWord))) then
 some false
 else
 bif (a_0.fTries != b_1.fTries) then
  some false
 else
  bif (a_0.fLast != b_1.fLast) then
  some false
  else
  bif (!((ByteArray.toList a_0.fChain) == (ByteArray.toList b_1.fChain))) then
   some false
  else
   bif (a_0.fCount != b_1.fCount) then
   some false
   else
   bif ((a_0.fThings.length:Int) != (b_1.fThings.length:Int)) then
    some false
   else
    k (.c0 0 a_0 b_1)
noncomputable def Xm (k:Ii→Option Bool):Ii→Option Bool
 | .c0 i_5 a_2 b_3=>
 bif (decide (i_5<(a_2.fThings.length:Int))) then
  bif ((decide (0≤i_5)) && (decide (i_5<(a_2.fThings.length:Int)))) then
  bif ((decide (0≤i_5)) && (decide (i_5<(b_3.fThings.length:Int)))) then
  bif (!(((a_2.fThings.getD i_5.toNat (⟨0,0,false,false,false,false,⟨#[]⟩,0⟩:SThing)).fId == (b_3.fThings.getD i_5.toNat (⟨0,0,false,false,false,false,⟨#[]⟩,0⟩:SThing)).fId) && (((a_2.fThings.getD i_5.toNat (⟨0,0,false,false,false,false,⟨#[]⟩,0⟩:SThing)).fKind == (b_3.fThings.getD i_5.toNat (⟨0,0,false,false,false,false,⟨#[]⟩,0⟩:SThing)).fKind) && (((a_2.fThings.getD i_5.toNat (⟨0,0,false,false,false,false,⟨#[]⟩,0⟩:SThing)).fHidden == (b_3.fThings.getD i_5.toNat (⟨0,0,false,false,false,false,⟨#[]⟩,0⟩:SThing)).fHidden) && (((a_2.fThings.getD i_5.toNat (⟨0,0,false,false,false,false,⟨#[]⟩,0⟩:SThing)).fFixed == (b_3.fThings.getD i_5.toNat (⟨0,0,false,false,false,false,⟨#[]⟩,0⟩:SThing)).fFixed) && (((a_2.fThings.getD i_5.toNat (⟨0,0,false,false,false,false,⟨#[]⟩,0⟩:SThing)).fSigns == (b_3.fThings.getD i_5.toNat (⟨0,0,false,false,false,false,⟨#[]⟩,0⟩:SThing)).fSigns) && (((a_2.fThings.getD i_5.toNat (⟨0,0,false,false,false,false,⟨#[]⟩,0⟩:SThing)).fWraps == (b_3.fThings.getD i_5.toNat (⟨0,0,false,false,false,false,⟨#[]⟩,0⟩:SThing)).fWraps) && (((ByteArray.toList (a_2.fThings.getD i_5.toNat (⟨0,0,false,false,false,false,⟨#[]⟩,0⟩:SThing)).fValue) == (ByteArray.toList (b_3.fThings.getD i_5.toNat (⟨0,0,false,false,false,false,⟨#[]⟩,0⟩:SThing)).fValue)) && (((a_2.fThings.getD i_5.toNat (⟨0,0,false,false,false,false,⟨#[]⟩,0⟩:SThing)).fNext == (b_3.fThings.getD i_5.toNat (⟨0,0,false,false,false,false,⟨#[]⟩,0⟩:SThing)).fNext) && true))))))))) then
  some false
  else
  k (.c0 (w64 (i_5+1)) a_2 b_3)
  else none
  else none
 else
  some true
noncomputable def Ji:Nat→Ii→Option Bool
 | 0,_=>none
 | m+1,s=>Xm (Ji m) s
noncomputable def La:Tj:=Ru (Ji gas)
theorem V9:Tells ctx PP 14 cv79 cv1 (fun a=>La a.1 a.2):=
 have b:CutIs ctx PP 14 Tryz.f14 [] [] cv1 O7 (Xm):=fun _ s=>by cases s <;> kernel_rfl
 have e:EntryIs ctx PP 14 [] [] cv79 cv1 O7 (fun k a=>Ru k a.1 a.2):=fun _ a=>by kernel_rfl
 fn_ok hl_nil Tryz.func14 (fun s s' h=>by cases s;cases s';(repeat cases ‹SBook›);cases h;rfl) (fun _=>rfl) (fun _ _=>rfl) b e gas
noncomputable def Xw {γ:Type} (F:Tj):Hd ctx γ:=hdl cv79.dec (fun a=>F a.1 a.2) cv1.enc
abbrev Uu:=ByteArray→Int→ByteArray→Option (ByteArray×Bool)
noncomputable def Vu (z0:Am) (z1:Em) (z2:Cm) (key_0:ByteArray) (num_1:Int) (s_2:ByteArray):Option (ByteArray×Bool):=
 (z0 key_0 num_1 (s_2.size:Int)).bind fun r0=>
 bif (!r0.2) then
 some (⟨#[]⟩,false)
 else
 (z1 s_2 r0.1).bind fun r1=>
 (z2 key_0 num_1 r1).bind fun r2=>
 bif (decide ((r1.size+r2.size)≤9223372036854775807)) then
 some ((r1++r2),true)
 else none
noncomputable def Oi:Uu:=Vu impl_Mask impl_both impl_tag
theorem KAE:Tells ctx PP 46 cv45 cv30 (fun a=>Oi a.1 a.2.1 a.2.2):=fn_ok0 (hc Q5 (hc Z5 (hc V5 hl_nil))) Tryz.func46 ((fun z0 z1 z2 a=>by kernel_rfl:∀ z0 z1 z2,EntryIs0 ctx PP 46 [] [(63,U5 z0),(65,D6 z1),(64,X5 z2)] cv45 cv30 fun a=>Vu z0 z1 z2 a.1 a.2.1 a.2.2) impl_Mask impl_both impl_tag)
noncomputable def LAE {γ:Type} (F:Uu):Hd ctx γ:=hdl cv45.dec (fun a=>F a.1 a.2.1 a.2.2) cv30.enc
abbrev Uj:=ByteArray→Int→SRec→Option ((List SAct)×Bool)
noncomputable def Wu (z0:Nh) (z1:OY) (z2:Uu) (z3:Oh) (key_0:ByteArray) (count_1:Int) (r_2:SRec):Option ((List SAct)×Bool):=
 (z0 r_2).bind fun r0=>
 bif (!r0.2) then
 some ([],false)
 else
 (z1 count_1 0 10000).bind fun r1=>
 bif (!r1) then
  some ([],false)
 else
  (z2 key_0 (w64 (count_1+1)) r0.1).bind fun r2=>
  (z3 r2.1).bind fun r3=>
  bif (!r2.2) then
  some ([],false)
  else
  bif (!r3.2) then
   some ([],false)
  else
   some ([⟨1,⟨#[98,111,111,107]⟩,r3.1,⟨#[]⟩⟩,⟨2,⟨#[98,111,111,107]⟩,⟨#[]⟩,⟨#[]⟩⟩],true)
noncomputable def Na:Uj:=Wu impl_RecText impl_in Oi impl_Frame
theorem W9:Tells ctx PP 16 cv47 cv48 (fun a=>Na a.1 a.2.1 a.2.2):=fn_ok0 (hc Ot (hc IZ (hc KAE (hc U6 hl_nil)))) Tryz.func16 ((fun z0 z1 z2 z3 a=>by kernel_rfl:∀ z0 z1 z2 z3,EntryIs0 ctx PP 16 [] [(44,Rt z0),(45,UY z1),(46,LAE z2),(30,Tt z3)] cv47 cv48 fun a=>Wu z0 z1 z2 z3 a.1 a.2.1 a.2.2) impl_RecText impl_in Oi impl_Frame)
noncomputable def Yw {γ:Type} (F:Uj):Hd ctx γ:=hdl cv47.dec (fun a=>F a.1 a.2.1 a.2.2) cv48.enc
abbrev Vj:=SBook→(List SRec)→Option (SBook×Bool)
inductive Qi where
 | c0 (list_1:(List SRec)) (i_7:Int) (v_4c0:ByteArray) (v_4c1:Int) (v_4c3:Int) (v_4c4:ByteArray) (v_4c5:Int) (out_6c0:ByteArray) (out_6c1:Int) (out_6c3:Int) (out_6c4:ByteArray) (out_6c5:Int) (v_4r2:(List SThing)) (out_6r2:(List SThing))
noncomputable def P7:Qi→LI
 | .c0 list_1 i_7 v_4c0 v_4c1 v_4c3 v_4c4 v_4c5 out_6c0 out_6c1 out_6c3 out_6c4 out_6c5 v_4r2 out_6r2=>(tdo Tryz.f17 464,[(1,[.one (.rsl 32 list_1)]),(4,[.one (.ptr 256 0)]),(6,[.one (.ptr 384 0)]),(7,[.one (.int .i64 i_7)])],[(256,.var [.str v_4c0,.int .i64 v_4c1,.own 1016386,.int .i64 v_4c3,.str v_4c4,.int .i64 v_4c5]),(384,.var [.str out_6c0,.int .i64 out_6c1,.own 1024578,.int .i64 out_6c3,.str out_6c4,.int .i64 out_6c5]),(1016386,.sl 30 v_4r2),(1024578,.sl 30 out_6r2)])
noncomputable def Xu (z0:Vb) (z1:Xb) (k:Qi→Option (SBook×Bool)) (b_0:SBook) (list_1:(List SRec)):Option (SBook×Bool):=
 (z0 b_0).bind fun r0=>
 k (.c0 list_1 0 ⟨#[]⟩ 0 0 ⟨#[]⟩ 0 r0.fWord r0.fTries r0.fLast r0.fChain r0.fCount [] r0.fThings)
noncomputable def Ym (z0:Vb) (z1:Xb) (k:Qi→Option (SBook×Bool)):Qi→Option (SBook×Bool)
 | .c0 list_1 i_7 v_4c0 v_4c1 v_4c3 v_4c4 v_4c5 out_6c0 out_6c1 out_6c3 out_6c4 out_6c5 v_4r2 out_6r2=>
 bif (decide (i_7<(list_1.length:Int))) then
  bif ((decide (0≤i_7)) && (decide (i_7<(list_1.length:Int)))) then
  (z1 ⟨out_6c0,out_6c1,out_6r2,out_6c3,out_6c4,out_6c5⟩ (list_1.getD i_7.toNat (⟨0,⟨#[]⟩,0,⟨0,0,false,false,false,false,⟨#[]⟩,0⟩⟩:SRec))).bind fun r0=>
  bif (!r0.2) then
  some (⟨⟨#[]⟩,0,[],0,⟨#[]⟩,0⟩,false)
  else
  k (.c0 list_1 (w64 (i_7+1)) v_4c0 v_4c1 v_4c3 v_4c4 v_4c5 r0.1.fWord r0.1.fTries r0.1.fLast r0.1.fChain r0.1.fCount v_4r2 r0.1.fThings)
  else none
 else
  some (⟨out_6c0,out_6c1,out_6r2,out_6c3,out_6c4,out_6c5⟩,true)
noncomputable def Ri:Nat→Qi→Option (SBook×Bool)
 | 0,_=>none
 | m+1,s=>Ym spec_l21Copy spec_Enter (Ri m) s
noncomputable def Oa:Vj:=Xu spec_l21Copy spec_Enter (Ri gas)
theorem X9:Tells ctx PP 17 cv76 cv39 (fun a=>Oa a.1 a.2):=
 have b:∀ z0 z1,CutIs ctx PP 17 Tryz.f17 [] [(47,Yk z0),(48,Gl z1)] cv39 P7 (Ym z0 z1):=fun z0 z1 _ s=>by cases s <;> kernel_rfl
 have e:∀ z0 z1,EntryIs ctx PP 17 [] [(47,Yk z0),(48,Gl z1)] cv76 cv39 P7 (fun k a=>Xu z0 z1 k a.1 a.2):=fun z0 z1 _ a=>by kernel_rfl
 fn_ok (hc Jz (hc Tz hl_nil)) Tryz.func17 (fun s s' h=>by cases s;cases s';cases h;rfl) (fun _=>rfl) (fun _ _=>rfl) (b spec_l21Copy spec_Enter) (e spec_l21Copy spec_Enter) gas
noncomputable def Zw {γ:Type} (F:Vj):Hd ctx γ:=hdl cv76.dec (fun a=>F a.1 a.2) cv39.enc
end Go.Proofs.YtjfkbidckphneaaGreatDoor.G
