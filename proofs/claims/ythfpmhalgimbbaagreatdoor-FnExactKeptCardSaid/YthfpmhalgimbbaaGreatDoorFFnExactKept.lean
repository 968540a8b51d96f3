/- Functions of the program, told by plain functions: part 2 of 2. -/
import Derived.Test.YthfpmhalgimbbaaGreatDoorFFnExactKepta
namespace Go.Proofs.YthfpmhalgimbbaaGreatDoor.G
open Go Go.Ev
set_option linter.unusedVariables false
abbrev IAC:=(List SFile)→(List SFile)→Option Bool
inductive Io where
 | c0 (a_0:(List SFile)) (b_1:(List SFile)) (i_5:Int)
noncomputable def PAN:Io→LI
 | .c0 a_0 b_1 i_5=>(tdo Tryz.f106 464,[(0,[.one (.rsl 155 a_0)]),(1,[.one (.rsl 155 b_1)]),(5,[.one (.int .i64 i_5)])],[])
noncomputable def JAC (z0:O1) (k:Io→Option Bool) (a_0:(List SFile)) (b_1:(List SFile)):Option Bool:=
 bif ((a_0.length:Int) != (b_1.length:Int)) then
 some false
 else
 k (.c0 a_0 b_1 0)
noncomputable def U1 (z0:O1) (k:Io→Option Bool):Io→Option Bool
 | .c0 a_0 b_1 i_5=>
 bif (decide (i_5<(a_0.length:Int))) then
  bif ((decide (0≤i_5)) && (decide (i_5<(a_0.length:Int)))) then
  bif ((decide (0≤i_5)) && (decide (i_5<(b_1.length:Int)))) then
  (z0 (a_0.getD i_5.toNat (⟨⟨#[]⟩,⟨#[]⟩,0⟩:SFile)) (b_1.getD i_5.toNat (⟨⟨#[]⟩,⟨#[]⟩,0⟩:SFile))).bind fun r0=>
  bif (!r0) then
  some false
  else
  k (.c0 a_0 b_1 (w64 (i_5+1)))
  else none
  else none
 else
  some true
noncomputable def Gl:Nat→Io→Option Bool
 | 0,_=>none
 | m+1,s=>U1 Ah (Gl m) s
noncomputable def Jo:IAC:=JAC Ah (Gl gas)
theorem BAX:Tells ctx PP 106 cv55 cv6 (fun a=>Jo a.1 a.2):=
 have b:∀ z0,CutIs ctx PP 106 Tryz.f106 [] [(159,QAN z0)] cv6 PAN (U1 z0):=fun z0 _ s=>by cases s <;> kernel_rfl
 have e:∀ z0,EntryIs ctx PP 106 [] [(159,QAN z0)] cv55 cv6 PAN (fun k a=>JAC z0 k a.1 a.2):=fun z0 _ a=>by kernel_rfl
 fn_ok (hc CAX hl_nil) Tryz.func106 (fun s s' h=>by cases s;cases s';cases h;rfl) (fun _=>rfl) (fun _ _=>rfl) (b Ah) (e Ah) gas
noncomputable def DAX {γ:Type} (F:IAC):Hd ctx γ:=hdl cv55.dec (fun a=>F a.1 a.2) cv6.enc
abbrev KAC:=SDisk→SDisk→Option Bool
noncomputable def LAC (z0:IAC) (a_0:SDisk) (b_1:SDisk):Option Bool:=
 (z0 a_0.fFiles b_1.fFiles).bind fun r0=>
 bif (!r0) then
 some false
 else
 some true
noncomputable def Ko:KAC:=LAC Jo
theorem EAX:Tells ctx PP 33 cv56 cv6 (fun a=>Ko a.1 a.2):=fn_ok0 (hc BAX hl_nil) Tryz.func33 ((fun z0 a=>by kernel_rfl:∀ z0,EntryIs0 ctx PP 33 [] [(106,DAX z0)] cv56 cv6 fun a=>LAC z0 a.1 a.2) Jo)
noncomputable def FAX {γ:Type} (F:KAC):Hd ctx γ:=hdl cv56.dec (fun a=>F a.1 a.2) cv6.enc
abbrev Oo:=SThing→SThing→Option Bool
noncomputable def NAC (a_0:SThing) (b_1:SThing):Option Bool:=
 bif (a_0.fId != b_1.fId) then
 some false
 else
 bif (a_0.fKind != b_1.fKind) then
  some false
 else
  bif (!(a_0.fHidden == b_1.fHidden)) then
  some false
  else
  bif (!(a_0.fFixed == b_1.fFixed)) then
   some false
  else
   bif (!(a_0.fSigns == b_1.fSigns)) then
   some false
   else
   bif (!(a_0.fWraps == b_1.fWraps)) then
    some false
   else
    bif (!((ByteArray.toList a_0.fValue) == (ByteArray.toList b_1.fValue))) then
    some false
    else
    bif (a_0.fNext != b_1.fNext) then
     some false
    else
     some true
noncomputable def Fe:Oo:=NAC
theorem SAN:Tells ctx PP 160 cv23 cv6 (fun a=>Fe a.1 a.2):=fn_ok0 hl_nil Tryz.func160 (fun a=>by kernel_rfl:EntryIs0 ctx PP 160 [] [] cv23 cv6 fun a=>NAC a.1 a.2)
noncomputable def OAC {γ:Type} (F:Oo):Hd ctx γ:=hdl cv23.dec (fun a=>F a.1 a.2) cv6.enc
abbrev PAC:=(List SThing)→(List SThing)→Option Bool
inductive Po where
 | c0 (a_0:(List SThing)) (b_1:(List SThing)) (i_5:Int)
noncomputable def TAN:Po→LI
 | .c0 a_0 b_1 i_5=>(tdo Tryz.f107 464,[(0,[.one (.rsl 69 a_0)]),(1,[.one (.rsl 69 b_1)]),(5,[.one (.int .i64 i_5)])],[])
noncomputable def QAC (z0:Oo) (k:Po→Option Bool) (a_0:(List SThing)) (b_1:(List SThing)):Option Bool:=
 bif ((a_0.length:Int) != (b_1.length:Int)) then
 some false
 else
 k (.c0 a_0 b_1 0)
noncomputable def Y1 (z0:Oo) (k:Po→Option Bool):Po→Option Bool
 | .c0 a_0 b_1 i_5=>
 bif (decide (i_5<(a_0.length:Int))) then
  bif ((decide (0≤i_5)) && (decide (i_5<(a_0.length:Int)))) then
  bif ((decide (0≤i_5)) && (decide (i_5<(b_1.length:Int)))) then
  (z0 (a_0.getD i_5.toNat (⟨0,0,false,false,false,false,⟨#[]⟩,0⟩:SThing)) (b_1.getD i_5.toNat (⟨0,0,false,false,false,false,⟨#[]⟩,0⟩:SThing))).bind fun r0=>
  bif (!r0) then
  some false
  else
  k (.c0 a_0 b_1 (w64 (i_5+1)))
  else none
  else none
 else
  some true
noncomputable def Hl:Nat→Po→Option Bool
 | 0,_=>none
 | m+1,s=>Y1 Fe (Hl m) s
noncomputable def Qo:PAC:=QAC Fe (Hl gas)
theorem GAX:Tells ctx PP 107 cv57 cv6 (fun a=>Qo a.1 a.2):=
 have b:∀ z0,CutIs ctx PP 107 Tryz.f107 [] [(160,OAC z0)] cv6 TAN (Y1 z0):=fun z0 _ s=>by cases s <;> kernel_rfl
 have e:∀ z0,EntryIs ctx PP 107 [] [(160,OAC z0)] cv57 cv6 TAN (fun k a=>QAC z0 k a.1 a.2):=fun z0 _ a=>by kernel_rfl
 fn_ok (hc SAN hl_nil) Tryz.func107 (fun s s' h=>by cases s;cases s';cases h;rfl) (fun _=>rfl) (fun _ _=>rfl) (b Fe) (e Fe) gas
noncomputable def HAX {γ:Type} (F:PAC):Hd ctx γ:=hdl cv57.dec (fun a=>F a.1 a.2) cv6.enc
abbrev RAC:=SBook→SBook→Option Bool
noncomputable def SAC (z0:PAC) (a_0:SBook) (b_1:SBook):Option Bool:=
 bif (!((ByteArray.toList a_0.fWord) == (ByteArray.toList b_1.fWord))) then
 some false
 else
 bif (a_0.fTries != b_1.fTries) then
  some false
 else
  (z0 a_0.fThings b_1.fThings).bind fun r0=>
  bif (!r0) then
  some false
  else
  bif (a_0.fLast != b_1.fLast) then
   some false
  else
   bif (!((ByteArray.toList a_0.fChain) == (ByteArray.toList b_1.fChain))) then
   some false
   else
   bif (a_0.fCount != b_1.fCount) then
    some false
   else
    some true
noncomputable def Ro:RAC:=SAC Qo
theorem IAX:Tells ctx PP 34 cv58 cv6 (fun a=>Ro a.1 a.2):=fn_ok0 (hc GAX hl_nil) Tryz.func34 ((fun z0 a=>by kernel_rfl:∀ z0,EntryIs0 ctx PP 34 [] [(107,HAX z0)] cv58 cv6 fun a=>SAC z0 a.1 a.2) Qo)
noncomputable def JAX {γ:Type} (F:RAC):Hd ctx γ:=hdl cv58.dec (fun a=>F a.1 a.2) cv6.enc
abbrev U2:=SSession→SSession→Option Bool
noncomputable def UAC (a_0:SSession) (b_1:SSession):Option Bool:=
 bif (a_0.fId != b_1.fId) then
 some false
 else
 bif (!(a_0.fIn == b_1.fIn)) then
  some false
 else
  some true
noncomputable def Bh:U2:=UAC
theorem KAX:Tells ctx PP 108 cv59 cv6 (fun a=>Bh a.1 a.2):=fn_ok0 hl_nil Tryz.func108 (fun a=>by kernel_rfl:EntryIs0 ctx PP 108 [] [] cv59 cv6 fun a=>UAC a.1 a.2)
noncomputable def UAN {γ:Type} (F:U2):Hd ctx γ:=hdl cv59.dec (fun a=>F a.1 a.2) cv6.enc
abbrev VAC:=(List SSession)→(List SSession)→Option Bool
inductive Uo where
 | c0 (a_0:(List SSession)) (b_1:(List SSession)) (i_5:Int)
noncomputable def VAN:Uo→LI
 | .c0 a_0 b_1 i_5=>(tdo Tryz.f35 464,[(0,[.one (.rsl 92 a_0)]),(1,[.one (.rsl 92 b_1)]),(5,[.one (.int .i64 i_5)])],[])
noncomputable def WAC (z0:U2) (k:Uo→Option Bool) (a_0:(List SSession)) (b_1:(List SSession)):Option Bool:=
 bif ((a_0.length:Int) != (b_1.length:Int)) then
 some false
 else
 k (.c0 a_0 b_1 0)
noncomputable def Y2 (z0:U2) (k:Uo→Option Bool):Uo→Option Bool
 | .c0 a_0 b_1 i_5=>
 bif (decide (i_5<(a_0.length:Int))) then
  bif ((decide (0≤i_5)) && (decide (i_5<(a_0.length:Int)))) then
  bif ((decide (0≤i_5)) && (decide (i_5<(b_1.length:Int)))) then
  (z0 (a_0.getD i_5.toNat (⟨0,false⟩:SSession)) (b_1.getD i_5.toNat (⟨0,false⟩:SSession))).bind fun r0=>
  bif (!r0) then
  some false
  else
  k (.c0 a_0 b_1 (w64 (i_5+1)))
  else none
  else none
 else
  some true
noncomputable def Il:Nat→Uo→Option Bool
 | 0,_=>none
 | m+1,s=>Y2 Bh (Il m) s
noncomputable def Vo:VAC:=WAC Bh (Il gas)
theorem LAX:Tells ctx PP 35 cv60 cv6 (fun a=>Vo a.1 a.2):=
 have b:∀ z0,CutIs ctx PP 35 Tryz.f35 [] [(108,UAN z0)] cv6 VAN (Y2 z0):=fun z0 _ s=>by cases s <;> kernel_rfl
 have e:∀ z0,EntryIs ctx PP 35 [] [(108,UAN z0)] cv60 cv6 VAN (fun k a=>WAC z0 k a.1 a.2):=fun z0 _ a=>by kernel_rfl
 fn_ok (hc KAX hl_nil) Tryz.func35 (fun s s' h=>by cases s;cases s';cases h;rfl) (fun _=>rfl) (fun _ _=>rfl) (b Bh) (e Bh) gas
noncomputable def MAX {γ:Type} (F:VAC):Hd ctx γ:=hdl cv60.dec (fun a=>F a.1 a.2) cv6.enc
abbrev J3:=SLive→SLive→Option Bool
noncomputable def XAC (a_0:SLive) (b_1:SLive):Option Bool:=
 bif (a_0.fId != b_1.fId) then
 some false
 else
 bif (a_0.fNext != b_1.fNext) then
  some false
 else
  some true
noncomputable def Dh:J3:=XAC
theorem NAX:Tells ctx PP 109 cv61 cv6 (fun a=>Dh a.1 a.2):=fn_ok0 hl_nil Tryz.func109 (fun a=>by kernel_rfl:EntryIs0 ctx PP 109 [] [] cv61 cv6 fun a=>XAC a.1 a.2)
noncomputable def WAN {γ:Type} (F:J3):Hd ctx γ:=hdl cv61.dec (fun a=>F a.1 a.2) cv6.enc
abbrev YAC:=(List SLive)→(List SLive)→Option Bool
inductive Xo where
 | c0 (a_0:(List SLive)) (b_1:(List SLive)) (i_5:Int)
noncomputable def XAN:Xo→LI
 | .c0 a_0 b_1 i_5=>(tdo Tryz.f36 464,[(0,[.one (.rsl 149 a_0)]),(1,[.one (.rsl 149 b_1)]),(5,[.one (.int .i64 i_5)])],[])
noncomputable def ZAC (z0:J3) (k:Xo→Option Bool) (a_0:(List SLive)) (b_1:(List SLive)):Option Bool:=
 bif ((a_0.length:Int) != (b_1.length:Int)) then
 some false
 else
 k (.c0 a_0 b_1 0)
noncomputable def O3 (z0:J3) (k:Xo→Option Bool):Xo→Option Bool
 | .c0 a_0 b_1 i_5=>
 bif (decide (i_5<(a_0.length:Int))) then
  bif ((decide (0≤i_5)) && (decide (i_5<(a_0.length:Int)))) then
  bif ((decide (0≤i_5)) && (decide (i_5<(b_1.length:Int)))) then
  (z0 (a_0.getD i_5.toNat (⟨0,0⟩:SLive)) (b_1.getD i_5.toNat (⟨0,0⟩:SLive))).bind fun r0=>
  bif (!r0) then
  some false
  else
  k (.c0 a_0 b_1 (w64 (i_5+1)))
  else none
  else none
 else
  some true
noncomputable def Jl:Nat→Xo→Option Bool
 | 0,_=>none
 | m+1,s=>O3 Dh (Jl m) s
noncomputable def Yo:YAC:=ZAC Dh (Jl gas)
theorem OAX:Tells ctx PP 36 cv62 cv6 (fun a=>Yo a.1 a.2):=
 have b:∀ z0,CutIs ctx PP 36 Tryz.f36 [] [(109,WAN z0)] cv6 XAN (O3 z0):=fun z0 _ s=>by cases s <;> kernel_rfl
 have e:∀ z0,EntryIs ctx PP 36 [] [(109,WAN z0)] cv62 cv6 XAN (fun k a=>ZAC z0 k a.1 a.2):=fun z0 _ a=>by kernel_rfl
 fn_ok (hc NAX hl_nil) Tryz.func36 (fun s s' h=>by cases s;cases s';cases h;rfl) (fun _=>rfl) (fun _ _=>rfl) (b Dh) (e Dh) gas
noncomputable def PAX {γ:Type} (F:YAC):Hd ctx γ:=hdl cv62.dec (fun a=>F a.1 a.2) cv6.enc
abbrev AAD:=SBox→SBox→Option Bool
noncomputable def CAD (z0:KAC) (z1:RAC) (z2:VAC) (z3:YAC) (a_0:SBox) (b_1:SBox):Option Bool:=
 bif (!((ByteArray.toList a_0.fKey) == (ByteArray.toList b_1.fKey))) then
 some false
 else
 bif (!(a_0.fUp == b_1.fUp)) then
  some false
 else
  (z0 a_0.fDisk b_1.fDisk).bind fun r0=>
  bif (!r0) then
  some false
  else
  (z1 a_0.fBook b_1.fBook).bind fun r1=>
  bif (!r1) then
   some false
  else
   (z2 a_0.fSessions b_1.fSessions).bind fun r2=>
   bif (!r2) then
   some false
   else
   (z3 a_0.fLives b_1.fLives).bind fun r3=>
   bif (!r3) then
    some false
   else
    bif (a_0.fOpened != b_1.fOpened) then
    some false
    else
    some true
noncomputable def Zo:AAD:=CAD Ko Ro Vo Yo
theorem QAX:Tells ctx PP 10 cv63 cv6 (fun a=>Zo a.1 a.2):=fn_ok0 (hc EAX (hc IAX (hc LAX (hc OAX hl_nil)))) Tryz.func10 ((fun z0 z1 z2 z3 a=>by kernel_rfl:∀ z0 z1 z2 z3,EntryIs0 ctx PP 10 [] [(33,FAX z0),(34,JAX z1),(35,MAX z2),(36,PAX z3)] cv63 cv6 fun a=>CAD z0 z1 z2 z3 a.1 a.2) Ko Ro Vo Yo)
noncomputable def RAX {γ:Type} (F:AAD):Hd ctx γ:=hdl cv63.dec (fun a=>F a.1 a.2) cv6.enc
abbrev DAD:=(List Int)→(List Int)→Option Bool
inductive Ap where
 | c0 (a_0:(List Int)) (b_1:(List Int)) (i_5:Int)
noncomputable def YAN:Ap→LI
 | .c0 a_0 b_1 i_5=>(tdo Tryz.f75 464,[(0,[.one (.rsl 3 a_0)]),(1,[.one (.rsl 3 b_1)]),(5,[.one (.int .i64 i_5)])],[])
noncomputable def EAD (k:Ap→Option Bool) (a_0:(List Int)) (b_1:(List Int)):Option Bool:=
 bif ((a_0.length:Int) != (b_1.length:Int)) then
 some false
 else
 k (.c0 a_0 b_1 0)
noncomputable def U3 (k:Ap→Option Bool):Ap→Option Bool
 | .c0 a_0 b_1 i_5=>
 bif (decide (i_5<(a_0.length:Int))) then
  bif ((decide (0≤i_5)) && (decide (i_5<(a_0.length:Int)))) then
  bif ((decide (0≤i_5)) && (decide (i_5<(b_1.length:Int)))) then
  bif ((a_0.getD i_5.toNat 0) != (b_1.getD i_5.toNat 0)) then
  some false
  else
  k (.c0 a_0 b_1 (w64 (i_5+1)))
  else none
  else none
 else
  some true
noncomputable def Ll:Nat→Ap→Option Bool
 | 0,_=>none
 | m+1,s=>U3 (Ll m) s
noncomputable def Dp:DAD:=EAD (Ll gas)
theorem SAX:Tells ctx PP 75 cv139 cv6 (fun a=>Dp a.1 a.2):=
 have b:CutIs ctx PP 75 Tryz.f75 [] [] cv6 YAN (U3):=fun _ s=>by cases s <;> kernel_rfl
 have e:EntryIs ctx PP 75 [] [] cv139 cv6 YAN (fun k a=>EAD k a.1 a.2):=fun _ a=>by kernel_rfl
 fn_ok hl_nil Tryz.func75 (fun s s' h=>by cases s;cases s';cases h;rfl) (fun _=>rfl) (fun _ _=>rfl) b e gas
noncomputable def TAX {γ:Type} (F:DAD):Hd ctx γ:=hdl cv139.dec (fun a=>F a.1 a.2) cv6.enc
abbrev FAD:=(List ByteArray)→(List ByteArray)→Option Bool
inductive Ep where
 | c0 (a_0:(List ByteArray)) (b_1:(List ByteArray)) (i_5:Int)
noncomputable def ZAN:Ep→LI
 | .c0 a_0 b_1 i_5=>(tdo Tryz.f76 464,[(0,[.one (.rsl 9 a_0)]),(1,[.one (.rsl 9 b_1)]),(5,[.one (.int .i64 i_5)])],[])
noncomputable def GAD (k:Ep→Option Bool) (a_0:(List ByteArray)) (b_1:(List ByteArray)):Option Bool:=
 bif ((a_0.length:Int) != (b_1.length:Int)) then
 some false
 else
 k (.c0 a_0 b_1 0)
noncomputable def V3 (k:Ep→Option Bool):Ep→Option Bool
 | .c0 a_0 b_1 i_5=>
 bif (decide (i_5<(a_0.length:Int))) then
  bif ((decide (0≤i_5)) && (decide (i_5<(a_0.length:Int)))) then
  bif ((decide (0≤i_5)) && (decide (i_5<(b_1.length:Int)))) then
  bif (!((ByteArray.toList (a_0.getD i_5.toNat (⟨#[]⟩:ByteArray))) == (ByteArray.toList (b_1.getD i_5.toNat (⟨#[]⟩:ByteArray))))) then
  some false
  else
  k (.c0 a_0 b_1 (w64 (i_5+1)))
  else none
  else none
 else
  some true
noncomputable def Nl:Nat→Ep→Option Bool
 | 0,_=>none
 | m+1,s=>V3 (Nl m) s
noncomputable def Fp:FAD:=GAD (Nl gas)
theorem UAX:Tells ctx PP 76 cv140 cv6 (fun a=>Fp a.1 a.2):=
 have b:CutIs ctx PP 76 Tryz.f76 [] [] cv6 ZAN (V3):=fun _ s=>by cases s <;> kernel_rfl
 have e:EntryIs ctx PP 76 [] [] cv140 cv6 ZAN (fun k a=>GAD k a.1 a.2):=fun _ a=>by kernel_rfl
 fn_ok hl_nil Tryz.func76 (fun s s' h=>by cases s;cases s';cases h;rfl) (fun _=>rfl) (fun _ _=>rfl) b e gas
noncomputable def VAX {γ:Type} (F:FAD):Hd ctx γ:=hdl cv140.dec (fun a=>F a.1 a.2) cv6.enc
abbrev X3:=SGiven→SGiven→Option Bool
noncomputable def IAD (a_0:SGiven) (b_1:SGiven):Option Bool:=
 bif (a_0.fThing != b_1.fThing) then
 some false
 else
 bif (a_0.fLeaf != b_1.fLeaf) then
  some false
 else
  bif (a_0.fWhen != b_1.fWhen) then
  some false
  else
  some true
noncomputable def Eh:X3:=IAD
theorem WAX:Tells ctx PP 135 cv141 cv6 (fun a=>Eh a.1 a.2):=fn_ok0 hl_nil Tryz.func135 (fun a=>by kernel_rfl:EntryIs0 ctx PP 135 [] [] cv141 cv6 fun a=>IAD a.1 a.2)
noncomputable def AAO {γ:Type} (F:X3):Hd ctx γ:=hdl cv141.dec (fun a=>F a.1 a.2) cv6.enc
abbrev JAD:=(List SGiven)→(List SGiven)→Option Bool
inductive Gp where
 | c0 (a_0:(List SGiven)) (b_1:(List SGiven)) (i_5:Int)
noncomputable def BAO:Gp→LI
 | .c0 a_0 b_1 i_5=>(tdo Tryz.f77 464,[(0,[.one (.rsl 117 a_0)]),(1,[.one (.rsl 117 b_1)]),(5,[.one (.int .i64 i_5)])],[])
noncomputable def KAD (z0:X3) (k:Gp→Option Bool) (a_0:(List SGiven)) (b_1:(List SGiven)):Option Bool:=
 bif ((a_0.length:Int) != (b_1.length:Int)) then
 some false
 else
 k (.c0 a_0 b_1 0)
noncomputable def Y3 (z0:X3) (k:Gp→Option Bool):Gp→Option Bool
 | .c0 a_0 b_1 i_5=>
 bif (decide (i_5<(a_0.length:Int))) then
  bif ((decide (0≤i_5)) && (decide (i_5<(a_0.length:Int)))) then
  bif ((decide (0≤i_5)) && (decide (i_5<(b_1.length:Int)))) then
  (z0 (a_0.getD i_5.toNat (⟨0,0,0⟩:SGiven)) (b_1.getD i_5.toNat (⟨0,0,0⟩:SGiven))).bind fun r0=>
  bif (!r0) then
  some false
  else
  k (.c0 a_0 b_1 (w64 (i_5+1)))
  else none
  else none
 else
  some true
noncomputable def Ol:Nat→Gp→Option Bool
 | 0,_=>none
 | m+1,s=>Y3 Eh (Ol m) s
noncomputable def Ip:JAD:=KAD Eh (Ol gas)
theorem XAX:Tells ctx PP 77 cv142 cv6 (fun a=>Ip a.1 a.2):=
 have b:∀ z0,CutIs ctx PP 77 Tryz.f77 [] [(135,AAO z0)] cv6 BAO (Y3 z0):=fun z0 _ s=>by cases s <;> kernel_rfl
 have e:∀ z0,EntryIs ctx PP 77 [] [(135,AAO z0)] cv142 cv6 BAO (fun k a=>KAD z0 k a.1 a.2):=fun z0 _ a=>by kernel_rfl
 fn_ok (hc WAX hl_nil) Tryz.func77 (fun s s' h=>by cases s;cases s';cases h;rfl) (fun _=>rfl) (fun _ _=>rfl) (b Eh) (e Eh) gas
noncomputable def YAX {γ:Type} (F:JAD):Hd ctx γ:=hdl cv142.dec (fun a=>F a.1 a.2) cv6.enc
abbrev I4:=SRec→SRec→Option Bool
noncomputable def LAD (z0:Oo) (a_0:SRec) (b_1:SRec):Option Bool:=
 bif (a_0.fKind != b_1.fKind) then
 some false
 else
 bif (!((ByteArray.toList a_0.fText) == (ByteArray.toList b_1.fText))) then
  some false
 else
  bif (a_0.fNum != b_1.fNum) then
  some false
  else
  (z0 a_0.fThing b_1.fThing).bind fun r0=>
  bif (!r0) then
   some false
  else
   some true
noncomputable def Fh:I4:=LAD Fe
theorem ZAX:Tells ctx PP 136 cv143 cv6 (fun a=>Fh a.1 a.2):=fn_ok0 (hc SAN hl_nil) Tryz.func136 ((fun z0 a=>by kernel_rfl:∀ z0,EntryIs0 ctx PP 136 [] [(160,OAC z0)] cv143 cv6 fun a=>LAD z0 a.1 a.2) Fe)
noncomputable def CAO {γ:Type} (F:I4):Hd ctx γ:=hdl cv143.dec (fun a=>F a.1 a.2) cv6.enc
abbrev MAD:=(List SRec)→(List SRec)→Option Bool
inductive Jp where
 | c0 (a_0:(List SRec)) (b_1:(List SRec)) (i_5:Int)
noncomputable def DAO:Jp→LI
 | .c0 a_0 b_1 i_5=>(tdo Tryz.f78 464,[(0,[.one (.rsl 71 a_0)]),(1,[.one (.rsl 71 b_1)]),(5,[.one (.int .i64 i_5)])],[])
noncomputable def NAD (z0:I4) (k:Jp→Option Bool) (a_0:(List SRec)) (b_1:(List SRec)):Option Bool:=
 bif ((a_0.length:Int) != (b_1.length:Int)) then
 some false
 else
 k (.c0 a_0 b_1 0)
noncomputable def J4 (z0:I4) (k:Jp→Option Bool):Jp→Option Bool
 | .c0 a_0 b_1 i_5=>
 bif (decide (i_5<(a_0.length:Int))) then
  bif ((decide (0≤i_5)) && (decide (i_5<(a_0.length:Int)))) then
  bif ((decide (0≤i_5)) && (decide (i_5<(b_1.length:Int)))) then
  (z0 (a_0.getD i_5.toNat (⟨0,⟨#[]⟩,0,⟨0,0,false,false,false,false,⟨#[]⟩,0⟩⟩:SRec)) (b_1.getD i_5.toNat (⟨0,⟨#[]⟩,0,⟨0,0,false,false,false,false,⟨#[]⟩,0⟩⟩:SRec))).bind fun r0=>
  bif (!r0) then
  some false
  else
  k (.c0 a_0 b_1 (w64 (i_5+1)))
  else none
  else none
 else
  some true
noncomputable def Ql:Nat→Jp→Option Bool
 | 0,_=>none
 | m+1,s=>J4 Fh (Ql m) s
noncomputable def Np:MAD:=NAD Fh (Ql gas)
theorem AAY:Tells ctx PP 78 cv144 cv6 (fun a=>Np a.1 a.2):=
 have b:∀ z0,CutIs ctx PP 78 Tryz.f78 [] [(136,CAO z0)] cv6 DAO (J4 z0):=fun z0 _ s=>by cases s <;> kernel_rfl
 have e:∀ z0,EntryIs ctx PP 78 [] [(136,CAO z0)] cv144 cv6 DAO (fun k a=>NAD z0 k a.1 a.2):=fun z0 _ a=>by kernel_rfl
 fn_ok (hc ZAX hl_nil) Tryz.func78 (fun s s' h=>by cases s;cases s';cases h;rfl) (fun _=>rfl) (fun _ _=>rfl) (b Fh) (e Fh) gas
noncomputable def BAY {γ:Type} (F:MAD):Hd ctx γ:=hdl cv144.dec (fun a=>F a.1 a.2) cv6.enc
abbrev OAD:=SLife→SLife→Option Bool
noncomputable def PAD (z0:AAD) (z1:DAD) (z2:FAD) (z3:JAD) (z4:MAD) (a_0:SLife) (b_1:SLife):Option Bool:=
 (z0 a_0.fBox b_1.fBox).bind fun r0=>
 bif (!r0) then
 some false
 else
 (z1 a_0.fCodes b_1.fCodes).bind fun r1=>
 bif (!r1) then
  some false
 else
  (z2 a_0.fReplies b_1.fReplies).bind fun r2=>
  bif (!r2) then
  some false
  else
  (z3 a_0.fGives b_1.fGives).bind fun r3=>
  bif (!r3) then
   some false
  else
   (z4 a_0.fDone b_1.fDone).bind fun r4=>
   bif (!r4) then
   some false
   else
   some true
noncomputable def Qp:OAD:=PAD Zo Dp Fp Ip Np
theorem CAY:Tells ctx PP 21 cv145 cv6 (fun a=>Qp a.1 a.2):=fn_ok0 (hc QAX (hc SAX (hc UAX (hc XAX (hc AAY hl_nil))))) Tryz.func21 ((fun z0 z1 z2 z3 z4 a=>by kernel_rfl:∀ z0 z1 z2 z3 z4,EntryIs0 ctx PP 21 [] [(10,RAX z0),(75,TAX z1),(76,VAX z2),(77,YAX z3),(78,BAY z4)] cv145 cv6 fun a=>PAD z0 z1 z2 z3 z4 a.1 a.2) Zo Dp Fp Ip Np)
noncomputable def EAY {γ:Type} (F:OAD):Hd ctx γ:=hdl cv145.dec (fun a=>F a.1 a.2) cv6.enc
abbrev EAO:=SLife→Option Bool
noncomputable def O4 (z0:QAD) (z1:RAD) (z2:SAD) (z3:TAD) (z4:OAD) (aL_0:SLife):Option Bool:=
 (z0 aL_0 1048576).bind fun r0=>
 bif (decide (r0<0)) then
 some true
 else
 (z1 aL_0).bind fun r1=>
 (z2 r1).bind fun r2=>
 (z1 aL_0).bind fun r3=>
 (z3 r3).bind fun r4=>
 bif (!(r4 == r2)) then
  some false
 else
  (z1 aL_0).bind fun r5=>
  (z4 r3 r5).bind fun r6=>
  bif (!r6) then
  some false
  else
  some true
noncomputable def laws_FnExactKept:EAO:=O4 Gh Vp Wp Xp Qp
theorem ok_laws_FnExactKept:Tells ctx PP 5 cv136 cv6 (fun a=>laws_FnExactKept a):=fn_ok0 (hc FAY (hc GAY (hc HAY (hc IAY (hc CAY hl_nil))))) Tryz.func5 ((fun z0 z1 z2 z3 z4 a=>by kernel_rfl:∀ z0 z1 z2 z3 z4,EntryIs0 ctx PP 5 [] [(17,JAY z0),(19,KAY z1),(18,NAY z2),(20,OAY z3),(21,EAY z4)] cv136 cv6 fun a=>O4 z0 z1 z2 z3 z4 a) Gh Vp Wp Xp Qp)
noncomputable def FAn {γ:Type} (F:EAO):Hd ctx γ:=hdl cv136.dec (fun a=>F a) cv6.enc
end Go.Proofs.YthfpmhalgimbbaaGreatDoor.G
