/- Functions of the program, told by plain functions: part 2 of 2. -/
import Derived.Test.YthfpmhalgimbbaaGreatDoorFFnExactBoxOka
namespace Go.Proofs.YthfpmhalgimbbaaGreatDoor.G
open Go Go.Ev
set_option linter.unusedVariables false
abbrev FAB:=(List SThing)→(List SThing)→Option Bool
inductive Eo where
 | c0 (a_0:(List SThing)) (b_1:(List SThing)) (i_5:Int)
noncomputable def MAL:Eo→LI
 | .c0 a_0 b_1 i_5=>(tdo Tryz.f107 464,[(0,[.one (.rsl 69 a_0)]),(1,[.one (.rsl 69 b_1)]),(5,[.one (.int .i64 i_5)])],[])
noncomputable def GAB (z0:Nz) (k:Eo→Option Bool) (a_0:(List SThing)) (b_1:(List SThing)):Option Bool:=
 bif ((a_0.length:Int) != (b_1.length:Int)) then
 some false
 else
 k (.c0 a_0 b_1 0)
noncomputable def Oz (z0:Nz) (k:Eo→Option Bool):Eo→Option Bool
 | .c0 a_0 b_1 i_5=>
 bif (decide (i_5<(a_0.length:Int))) then
  bif ((decide (0≤i_5)) && (decide (i_5<(a_0.length:Int)))) then
  bif ((decide (0≤i_5)) && (decide (i_5<(b_1.length:Int)))) then
  (z0 (a_0.getD i_5.toNat (⟨0,0,false,false,false,false,⟨#[]⟩,0⟩:SThing)) (b_1.getD i_5.toNat (⟨0,0,false,false,false,false,⟨#[]⟩,0⟩:SThing))).bind fun r0=>
  bif (!r0) then
  some false
  else
  k (.c0 a_0 b_1 (w64 (i_5+1)))
  else none
  else none
 else
  some true
noncomputable def Hl:Nat→Eo→Option Bool
 | 0,_=>none
 | m+1,s=>Oz Gh (Hl m) s
noncomputable def Ho:FAB:=GAB Gh (Hl gas)
theorem NAU:Tells ctx PP 107 cv57 cv6 (fun a=>Ho a.1 a.2):=
 have b:∀ z0,CutIs ctx PP 107 Tryz.f107 [] [(160,NAL z0)] cv6 MAL (Oz z0):=fun z0 _ s=>by cases s <;> kernel_rfl
 have e:∀ z0,EntryIs ctx PP 107 [] [(160,NAL z0)] cv57 cv6 MAL (fun k a=>GAB z0 k a.1 a.2):=fun z0 _ a=>by kernel_rfl
 fn_ok (hc OAU hl_nil) Tryz.func107 (fun s s' h=>by cases s;cases s';cases h;rfl) (fun _=>rfl) (fun _ _=>rfl) (b Gh) (e Gh) gas
noncomputable def PAU {γ:Type} (F:FAB):Hd ctx γ:=hdl cv57.dec (fun a=>F a.1 a.2) cv6.enc
abbrev IAB:=SBook→SBook→Option Bool
noncomputable def JAB (z0:FAB) (a_0:SBook) (b_1:SBook):Option Bool:=
 bif (!((ByteArray.toList a_0.fWord) == (ByteArray.toList b_1.fWord))) then
 some false
 else
 bif (a_0.fTries != b_1.fTries) then
  some false
 else
  (z0 a_0.fThings b_1.fThings).bind fun r0=>
  bif (!r0) then
  some false
  else
  bif (a_0.fLast != b_1.fLast) then
   some false
  else
   bif (!((ByteArray.toList a_0.fChain) == (ByteArray.toList b_1.fChain))) then
   some false
   else
   bif (a_0.fCount != b_1.fCount) then
    some false
   else
    some true
noncomputable def Io:IAB:=JAB Ho
theorem QAU:Tells ctx PP 34 cv58 cv6 (fun a=>Io a.1 a.2):=fn_ok0 (hc NAU hl_nil) Tryz.func34 ((fun z0 a=>by kernel_rfl:∀ z0,EntryIs0 ctx PP 34 [] [(107,PAU z0)] cv58 cv6 fun a=>JAB z0 a.1 a.2) Ho)
noncomputable def RAU {γ:Type} (F:IAB):Hd ctx γ:=hdl cv58.dec (fun a=>F a.1 a.2) cv6.enc
abbrev Pz:=SSession→SSession→Option Bool
noncomputable def KAB (a_0:SSession) (b_1:SSession):Option Bool:=
 bif (a_0.fId != b_1.fId) then
 some false
 else
 bif (!(a_0.fIn == b_1.fIn)) then
  some false
 else
  some true
noncomputable def Ih:Pz:=KAB
theorem SAU:Tells ctx PP 108 cv59 cv6 (fun a=>Ih a.1 a.2):=fn_ok0 hl_nil Tryz.func108 (fun a=>by kernel_rfl:EntryIs0 ctx PP 108 [] [] cv59 cv6 fun a=>KAB a.1 a.2)
noncomputable def OAL {γ:Type} (F:Pz):Hd ctx γ:=hdl cv59.dec (fun a=>F a.1 a.2) cv6.enc
abbrev LAB:=(List SSession)→(List SSession)→Option Bool
inductive Jo where
 | c0 (a_0:(List SSession)) (b_1:(List SSession)) (i_5:Int)
noncomputable def PAL:Jo→LI
 | .c0 a_0 b_1 i_5=>(tdo Tryz.f35 464,[(0,[.one (.rsl 92 a_0)]),(1,[.one (.rsl 92 b_1)]),(5,[.one (.int .i64 i_5)])],[])
noncomputable def MAB (z0:Pz) (k:Jo→Option Bool) (a_0:(List SSession)) (b_1:(List SSession)):Option Bool:=
 bif ((a_0.length:Int) != (b_1.length:Int)) then
 some false
 else
 k (.c0 a_0 b_1 0)
noncomputable def Qz (z0:Pz) (k:Jo→Option Bool):Jo→Option Bool
 | .c0 a_0 b_1 i_5=>
 bif (decide (i_5<(a_0.length:Int))) then
  bif ((decide (0≤i_5)) && (decide (i_5<(a_0.length:Int)))) then
  bif ((decide (0≤i_5)) && (decide (i_5<(b_1.length:Int)))) then
  (z0 (a_0.getD i_5.toNat (⟨0,false⟩:SSession)) (b_1.getD i_5.toNat (⟨0,false⟩:SSession))).bind fun r0=>
  bif (!r0) then
  some false
  else
  k (.c0 a_0 b_1 (w64 (i_5+1)))
  else none
  else none
 else
  some true
noncomputable def Il:Nat→Jo→Option Bool
 | 0,_=>none
 | m+1,s=>Qz Ih (Il m) s
noncomputable def Ko:LAB:=MAB Ih (Il gas)
theorem TAU:Tells ctx PP 35 cv60 cv6 (fun a=>Ko a.1 a.2):=
 have b:∀ z0,CutIs ctx PP 35 Tryz.f35 [] [(108,OAL z0)] cv6 PAL (Qz z0):=fun z0 _ s=>by cases s <;> kernel_rfl
 have e:∀ z0,EntryIs ctx PP 35 [] [(108,OAL z0)] cv60 cv6 PAL (fun k a=>MAB z0 k a.1 a.2):=fun z0 _ a=>by kernel_rfl
 fn_ok (hc SAU hl_nil) Tryz.func35 (fun s s' h=>by cases s;cases s';cases h;rfl) (fun _=>rfl) (fun _ _=>rfl) (b Ih) (e Ih) gas
noncomputable def UAU {γ:Type} (F:LAB):Hd ctx γ:=hdl cv60.dec (fun a=>F a.1 a.2) cv6.enc
abbrev Rz:=SLive→SLive→Option Bool
noncomputable def NAB (a_0:SLive) (b_1:SLive):Option Bool:=
 bif (a_0.fId != b_1.fId) then
 some false
 else
 bif (a_0.fNext != b_1.fNext) then
  some false
 else
  some true
noncomputable def Jh:Rz:=NAB
theorem VAU:Tells ctx PP 109 cv61 cv6 (fun a=>Jh a.1 a.2):=fn_ok0 hl_nil Tryz.func109 (fun a=>by kernel_rfl:EntryIs0 ctx PP 109 [] [] cv61 cv6 fun a=>NAB a.1 a.2)
noncomputable def QAL {γ:Type} (F:Rz):Hd ctx γ:=hdl cv61.dec (fun a=>F a.1 a.2) cv6.enc
abbrev OAB:=(List SLive)→(List SLive)→Option Bool
inductive Oo where
 | c0 (a_0:(List SLive)) (b_1:(List SLive)) (i_5:Int)
noncomputable def RAL:Oo→LI
 | .c0 a_0 b_1 i_5=>(tdo Tryz.f36 464,[(0,[.one (.rsl 149 a_0)]),(1,[.one (.rsl 149 b_1)]),(5,[.one (.int .i64 i_5)])],[])
noncomputable def PAB (z0:Rz) (k:Oo→Option Bool) (a_0:(List SLive)) (b_1:(List SLive)):Option Bool:=
 bif ((a_0.length:Int) != (b_1.length:Int)) then
 some false
 else
 k (.c0 a_0 b_1 0)
noncomputable def Sz (z0:Rz) (k:Oo→Option Bool):Oo→Option Bool
 | .c0 a_0 b_1 i_5=>
 bif (decide (i_5<(a_0.length:Int))) then
  bif ((decide (0≤i_5)) && (decide (i_5<(a_0.length:Int)))) then
  bif ((decide (0≤i_5)) && (decide (i_5<(b_1.length:Int)))) then
  (z0 (a_0.getD i_5.toNat (⟨0,0⟩:SLive)) (b_1.getD i_5.toNat (⟨0,0⟩:SLive))).bind fun r0=>
  bif (!r0) then
  some false
  else
  k (.c0 a_0 b_1 (w64 (i_5+1)))
  else none
  else none
 else
  some true
noncomputable def Jl:Nat→Oo→Option Bool
 | 0,_=>none
 | m+1,s=>Sz Jh (Jl m) s
noncomputable def Po:OAB:=PAB Jh (Jl gas)
theorem WAU:Tells ctx PP 36 cv62 cv6 (fun a=>Po a.1 a.2):=
 have b:∀ z0,CutIs ctx PP 36 Tryz.f36 [] [(109,QAL z0)] cv6 RAL (Sz z0):=fun z0 _ s=>by cases s <;> kernel_rfl
 have e:∀ z0,EntryIs ctx PP 36 [] [(109,QAL z0)] cv62 cv6 RAL (fun k a=>PAB z0 k a.1 a.2):=fun z0 _ a=>by kernel_rfl
 fn_ok (hc VAU hl_nil) Tryz.func36 (fun s s' h=>by cases s;cases s';cases h;rfl) (fun _=>rfl) (fun _ _=>rfl) (b Jh) (e Jh) gas
noncomputable def XAU {γ:Type} (F:OAB):Hd ctx γ:=hdl cv62.dec (fun a=>F a.1 a.2) cv6.enc
abbrev QAB:=SBox→SBox→Option Bool
noncomputable def RAB (z0:SAB) (z1:IAB) (z2:LAB) (z3:OAB) (a_0:SBox) (b_1:SBox):Option Bool:=
 bif (!((ByteArray.toList a_0.fKey) == (ByteArray.toList b_1.fKey))) then
 some false
 else
 bif (!(a_0.fUp == b_1.fUp)) then
  some false
 else
  (z0 a_0.fDisk b_1.fDisk).bind fun r0=>
  bif (!r0) then
  some false
  else
  (z1 a_0.fBook b_1.fBook).bind fun r1=>
  bif (!r1) then
   some false
  else
   (z2 a_0.fSessions b_1.fSessions).bind fun r2=>
   bif (!r2) then
   some false
   else
   (z3 a_0.fLives b_1.fLives).bind fun r3=>
   bif (!r3) then
    some false
   else
    bif (a_0.fOpened != b_1.fOpened) then
    some false
    else
    some true
noncomputable def Qo:QAB:=RAB Ro Io Ko Po
theorem YAU:Tells ctx PP 10 cv63 cv6 (fun a=>Qo a.1 a.2):=fn_ok0 (hc ZAU (hc QAU (hc TAU (hc WAU hl_nil)))) Tryz.func10 ((fun z0 z1 z2 z3 a=>by kernel_rfl:∀ z0 z1 z2 z3,EntryIs0 ctx PP 10 [] [(33,AAV z0),(34,RAU z1),(35,UAU z2),(36,XAU z3)] cv63 cv6 fun a=>RAB z0 z1 z2 z3 a.1 a.2) Ro Io Ko Po)
noncomputable def BAV {γ:Type} (F:QAB):Hd ctx γ:=hdl cv63.dec (fun a=>F a.1 a.2) cv6.enc
abbrev SAL:=SBox→Option Bool
noncomputable def TAB (z0:UAB) (z1:VAB) (z2:WAB) (z3:XAB) (z4:QAB) (aB_0:SBox):Option Bool:=
 (z0 aB_0 1048576).bind fun r0=>
 bif (decide (r0<0)) then
 some true
 else
 (z1 aB_0).bind fun r1=>
 (z2 r1).bind fun r2=>
 (z1 aB_0).bind fun r3=>
 (z3 r3).bind fun r4=>
 bif (!(r4 == r2)) then
  some false
 else
  (z1 aB_0).bind fun r5=>
  (z4 r3 r5).bind fun r6=>
  bif (!r6) then
  some false
  else
  some true
noncomputable def laws_FnExactBoxOk:SAL:=TAB Uo Vo Xo Yo Qo
theorem ok_laws_FnExactBoxOk:Tells ctx PP 4 cv103 cv6 (fun a=>laws_FnExactBoxOk a):=fn_ok0 (hc CAV (hc DAV (hc EAV (hc FAV (hc YAU hl_nil))))) Tryz.func4 ((fun z0 z1 z2 z3 z4 a=>by kernel_rfl:∀ z0 z1 z2 z3 z4,EntryIs0 ctx PP 4 [] [(13,GAV z0),(15,HAV z1),(14,IAV z2),(16,JAV z3),(10,BAV z4)] cv103 cv6 fun a=>TAB z0 z1 z2 z3 z4 a) Uo Vo Xo Yo Qo)
noncomputable def OAi {γ:Type} (F:SAL):Hd ctx γ:=hdl cv103.dec (fun a=>F a) cv6.enc
end Go.Proofs.YthfpmhalgimbbaaGreatDoor.G
