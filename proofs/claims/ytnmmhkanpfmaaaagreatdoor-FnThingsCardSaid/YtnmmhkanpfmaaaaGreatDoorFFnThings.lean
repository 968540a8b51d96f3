/- Functions of the program, told by plain functions: part 2 of 2. -/
import Derived.Test.YtnmmhkanpfmaaaaGreatDoorFFnThingsa
namespace Go.Proofs.YtnmmhkanpfmaaaaGreatDoor.G
open Go Go.Ev
noncomputable section
set_option linter.unusedVariables false
set_option maxRecDepth 100000
set_option linter.unusedSectionVars false
variable [PC]
abbrev SAN:=ByteArray→Option ByteArray
def BAE (z0:TAN) (z1:UAN) (a:ByteArray):Option ByteArray:=(z0 a).bind fun r0=>(z1 r0).bind fun r1=>some r1
def G7:SAN:=BAE H7 I7
theorem HAW:Tells ctx PP 59 cv8 cv8 (fun a=>G7 a):=fz0 (cc1 IAW (cc1 JAW cn)) Tryz.func59 [] (fun z a=>BAE z.1 z.2.1 a) fun _ _=>by kernel_rfl
abbrev VAN:=ByteArray→Option ByteArray
def CAE (z0:SAN) (a:ByteArray):Option ByteArray:=cond ((a.size+(⟨#[116]⟩:ByteArray).size)≤9223372036854775807) ((z0 (a++(⟨#[116]⟩:ByteArray))).bind fun r0=>some r0) none
def J7:VAN:=CAE G7
theorem KAW:Tells ctx PP 24 cv8 cv8 (fun a=>J7 a):=fz0 (cc1 HAW cn) Tryz.func24 [] (fun z a=>CAE z.1 a) fun _ _=>by kernel_rfl
abbrev WAN:=SThing→Option ByteArray
def DAE (z0:N7) (z1:XAN) (z2:VAN) (a:SThing):Option ByteArray:=(z0 a).bind fun r0=>cond (!r0) (some ⟨#[]⟩) (cond (a.fKind == 1) ((z1 a.fValue).bind fun r1=>some r1.1.fPublic) (cond (a.fKind == 2) ((z2 a.fValue).bind fun r2=>some r2) (some ⟨#[]⟩)))
def O7:WAN:=DAE Io P7 J7
theorem MAW:Tells ctx PP 7 cv2 cv8 (fun a=>O7 a):=fz0 (cc1 EAE (cc1 NAW (cc1 KAW cn))) Tryz.func7 [] (fun z a=>DAE z.1 z.2.1 z.2.2.1 a) fun _ _=>by kernel_rfl
abbrev OAW:=Unit→Option Bool
def FAE (z0:YAN) (z1:ZAN) (z2:GAE) (z3:AAO) (z4:N7) (z5:Q7) (z6:BAO) (z7:CAO) (z8:DAO) (z9:WAN) (a:Unit):Option Bool:=(z0 ()).bind fun r0=>cond r0 (some true) ((z1 ()).bind fun r1=>(z2 r1).bind fun r2=>(z3 r2.1).bind fun r3=>(z4 r1).bind fun r4=>cond (!(r2.2 == r4)) (some false) ((z5 r1).bind fun r5=>cond (!(r5 == r2.2)) (some false) (cond r2.2 (cond (!r3.2) (some false) (cond (!((r3.1.fId == r1.fId) && ((r3.1.fKind == r1.fKind) && ((r3.1.fHidden == r1.fHidden) && ((r3.1.fFixed == r1.fFixed) && ((r3.1.fSigns == r1.fSigns) && ((r3.1.fWraps == r1.fWraps) && (((ByteArray.toList r3.1.fValue) == (ByteArray.toList r1.fValue)) && ((r3.1.fNext == r1.fNext) && true))))))))) (some false) ((z6 ()).bind fun r6=>(z3 r6).bind fun r7=>(z7 r6).bind fun r8=>(z2 r7.1).bind fun r9=>cond (r7.2 == r8.2) (cond (!r7.2) ((z8 r1).bind fun r10=>(z9 r1).bind fun r11=>some ((ByteArray.toList r10) == (ByteArray.toList r11))) (cond ((ByteArray.toList r9.1) == (ByteArray.toList r6)) ((z8 r1).bind fun r12=>(z9 r1).bind fun r13=>some ((ByteArray.toList r12) == (ByteArray.toList r13))) (some false))) (some false)))) ((z6 ()).bind fun r14=>(z3 r14).bind fun r15=>(z7 r14).bind fun r16=>(z2 r15.1).bind fun r17=>cond (r15.2 == r16.2) (cond (!r15.2) ((z8 r1).bind fun r18=>(z9 r1).bind fun r19=>some ((ByteArray.toList r18) == (ByteArray.toList r19))) (cond ((ByteArray.toList r17.1) == (ByteArray.toList r14)) ((z8 r1).bind fun r20=>(z9 r1).bind fun r21=>some ((ByteArray.toList r20) == (ByteArray.toList r21))) (some false))) (some false)))))
def laws_FnThings:OAW:=FAE HAE U7 Vu Zk Io Jo V7 Bl X7 O7
theorem ok_laws_FnThings:Tells ctx PP 4 cv49 cv4 (fun a=>laws_FnThings a):=fz0 (cc1 PAW (cc1 QAW (cc1 EAO (cc1 RAW (cc1 EAE (cc1 IAE (cc1 SAW (cc1 TAW (cc1 UAW (cc1 MAW cn)))))))))) Tryz.func4 [] (fun z a=>FAE z.1 z.2.1 z.2.2.1 z.2.2.2.1 z.2.2.2.2.1 z.2.2.2.2.2.1 z.2.2.2.2.2.2.1 z.2.2.2.2.2.2.2.1 z.2.2.2.2.2.2.2.2.1 z.2.2.2.2.2.2.2.2.2.1 a) fun _ _=>by kernel_rfl
end
end Go.Proofs.YtnmmhkanpfmaaaaGreatDoor.G
