/- Functions of the program, told by plain functions: part 2 of 2. -/
import Derived.Test.YthfpmhalgimbbaaGreatDoorFFnExactBoxNewa
namespace Go.Proofs.YthfpmhalgimbbaaGreatDoor.G
open Go Go.Ev
set_option linter.unusedVariables false
abbrev D5:=(List SLive)→Int→Option Int
inductive Hl where
 | c0 (a_0:(List SLive)) (k_1:Int) (i_5:Int)
noncomputable def LAG:Hl→LI
 | .c0 a_0 k_1 i_5=>(tdo Tryz.f44 208,[(0,[.one (.rsl 149 a_0)]),(1,[.one (.int .i64 k_1)]),(5,[.one (.int .i64 i_5)])],[])
noncomputable def E5 (k:Hl→Option Int) (a_0:(List SLive)) (k_1:Int):Option Int:=
 k (.c0 a_0 k_1 0)
noncomputable def Hw (k:Hl→Option Int):Hl→Option Int
 | .c0 a_0 k_1 i_5=>
 bif (decide (i_5<(a_0.length:Int))) then
  bif ((decide (0≤i_5)) && (decide (i_5<(a_0.length:Int)))) then
  bif ((a_0.getD i_5.toNat (⟨0,0⟩:SLive)).fId != k_1) then
  some (-(1:Int))
  else
  bif ((decide (0≤i_5)) && (decide (i_5<(a_0.length:Int)))) then
  bif ((a_0.getD i_5.toNat (⟨0,0⟩:SLive)).fNext != (w64 (k_1+1))) then
   some (-(1:Int))
  else
   k (.c0 a_0 (w64 ((w64 (k_1+1))+1)) (w64 (i_5+1)))
  else none
  else none
 else
  some k_1
noncomputable def Ag:Nat→Hl→Option Int
 | 0,_=>none
 | m+1,s=>Hw (Ag m) s
noncomputable def Il:D5:=E5 (Ag gas)
theorem XAM:Tells ctx PP 44 cv80 cv15 (fun a=>Il a.1 a.2):=
 have b:CutIs ctx PP 44 Tryz.f44 [] [] cv15 LAG (Hw):=fun _ s=>by cases s <;> kernel_rfl
 have e:EntryIs ctx PP 44 [] [] cv80 cv15 LAG (fun k a=>E5 k a.1 a.2):=fun _ a=>by kernel_rfl
 fn_ok hl_nil Tryz.func44 (fun s s' h=>by cases s;cases s';cases h;rfl) (fun _=>rfl) (fun _ _=>rfl) b e gas
noncomputable def YAM {γ:Type} (F:D5):Hd ctx γ:=hdl cv80.dec (fun a=>F a.1 a.2) cv15.enc
abbrev F5:=SBox→Int→Option Int
noncomputable def G5 (z0:I5) (z1:J5) (z2:O5) (z3:D5) (a_0:SBox) (k_1:Int):Option Int:=
 (z0 a_0.fDisk k_1).bind fun r0=>
 bif (decide (r0<0)) then
 some (-(1:Int))
 else
 (z1 a_0.fBook r0).bind fun r1=>
 bif (decide (r1<0)) then
  some (-(1:Int))
 else
  (z2 a_0.fSessions r1).bind fun r2=>
  bif (decide (r2<0)) then
  some (-(1:Int))
  else
  (z3 a_0.fLives r2).bind fun r3=>
  bif (decide (r3<0)) then
   some (-(1:Int))
  else
   some r3
noncomputable def Jl:F5:=G5 Ll Nl Ol Il
theorem ZAM:Tells ctx PP 12 cv81 cv15 (fun a=>Jl a.1 a.2):=fn_ok0 (hc AAN (hc BAN (hc DAN (hc XAM hl_nil)))) Tryz.func12 ((fun z0 z1 z2 z3 a=>by kernel_rfl:∀ z0 z1 z2 z3,EntryIs0 ctx PP 12 [] [(41,EAN z0),(42,FAN z1),(43,GAN z2),(44,YAM z3)] cv81 cv15 fun a=>G5 z0 z1 z2 z3 a.1 a.2) Ll Nl Ol Il)
noncomputable def HAN {γ:Type} (F:F5):Hd ctx γ:=hdl cv81.dec (fun a=>F a.1 a.2) cv15.enc
abbrev MAG:=ByteArray→ByteArray→Option Bool
noncomputable def P5 (z0:Q5) (z1:U5) (z2:V5) (z3:X5) (z4:F5) (aKey_0:ByteArray) (aWord_1:ByteArray):Option Bool:=
 bif (decide ((aKey_0.size:Int) > 1048576)) then
 some true
 else
 bif (decide ((aWord_1.size:Int) > 1048576)) then
  some true
 else
  (z0 aKey_0 aWord_1).bind fun r0=>
  (z1 aKey_0 aWord_1).bind fun r1=>
  (z2 r1.1 r0.1).bind fun r2=>
  bif (!r2) then
  some false
  else
  bif (!(r1.2 == r0.2)) then
   some false
  else
   (z3 r1.1 1).bind fun r3=>
   (z4 ⟨r1.1.fKey,r1.1.fUp,⟨r3.2.1⟩,⟨r1.1.fBook.fWord,r1.1.fBook.fTries,r3.2.2.1,r1.1.fBook.fLast,r1.1.fBook.fChain,r1.1.fBook.fCount⟩,r3.2.2.2.1,r3.2.2.2.2,r1.1.fOpened⟩ 1).bind fun r4=>
   bif (decide (r4<0)) then
   some false
   else
   bif (r4 != r3.1) then
    some false
   else
    (z1 aKey_0 aWord_1).bind fun r5=>
    (z2 r5.1 r0.1).bind fun r6=>
    bif (!r6) then
    some false
    else
    bif (!(r5.2 == r0.2)) then
     some false
    else
     (z4 ⟨r1.1.fKey,r1.1.fUp,⟨r3.2.1⟩,⟨r1.1.fBook.fWord,r1.1.fBook.fTries,r3.2.2.1,r1.1.fBook.fLast,r1.1.fBook.fChain,r1.1.fBook.fCount⟩,r3.2.2.2.1,r3.2.2.2.2,r1.1.fOpened⟩ 1).bind fun r7=>
     bif (decide (r7<0)) then
     some false
     else
     bif (r7 != r3.1) then
      some false
     else
      some true
noncomputable def laws_FnExactBoxNew:MAG:=P5 Ql Rl Sl Ul Jl
theorem ok_laws_FnExactBoxNew:Tells ctx PP 3 cv29 cv6 (fun a=>laws_FnExactBoxNew a.1 a.2):=fn_ok0 (hc IAN (hc JAN (hc KAN (hc LAN (hc ZAM hl_nil))))) Tryz.func3 ((fun z0 z1 z2 z3 z4 a=>by kernel_rfl:∀ z0 z1 z2 z3 z4,EntryIs0 ctx PP 3 [] [(8,MAN z0),(9,NAN z1),(10,OAN z2),(11,PAN z3),(12,HAN z4)] cv29 cv6 fun a=>P5 z0 z1 z2 z3 z4 a.1 a.2) Ql Rl Sl Ul Jl)
noncomputable def OAb {γ:Type} (F:MAG):Hd ctx γ:=hdl cv29.dec (fun a=>F a.1 a.2) cv6.enc
end Go.Proofs.YthfpmhalgimbbaaGreatDoor.G
