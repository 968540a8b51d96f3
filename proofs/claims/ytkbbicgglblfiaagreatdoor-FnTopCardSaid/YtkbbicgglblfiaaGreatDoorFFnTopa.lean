/- Functions of the program, told by plain functions: part 1 of 2. -/
import Derived.Test.YtkbbicgglblfiaaGreatDoorCtx
namespace Go.Proofs.YtkbbicgglblfiaaGreatDoor.G
open Go Go.Ev
noncomputable section
set_option linter.unusedVariables false
set_option maxRecDepth 100000
set_option maxHeartbeats 4000000
set_option linter.unusedSectionVars false
variable [PC]
abbrev Avb:=Fk ctx PP
abbrev Avm:=ATo ctx
abbrev XAU:=Unit->Option Bool
abbrev BAv:=Unit->Option DZ
abbrev YAU:=DZ->Option (Int×DZ)
abbrev AxN:=DZ->Int->Option (Int×DZ)
abbrev Zr:=Int->Int->Option AA
abbrev Azb:=Option (List Int)
abbrev Avk:=List Int->Option AA
abbrev CAv:=Option IW
abbrev Va:=Int->Int->Int->Option Bool
abbrev uH:=IW->Option Bool
abbrev SAi:=AA->Int->Option Int
abbrev Ayz:=AA->Option (List Int)
abbrev DAv:=Int->Int->Int->Option Int
abbrev TAi:=Int->Int->Int->Int->Bool->Option Int
abbrev uI:=List Int->List Int->AA->Option (List Int)
abbrev EAv:=IW->AA->Option IW
abbrev FAv:=IW->Option AA
abbrev AwT:=AA->Option AA
abbrev Avp:=Option Bo
abbrev AzI:=Int->Option AA
abbrev AwZ:=Af->Option Bool
abbrev GAv:=Bool->Int->Option Int
abbrev Td:=Af->Option (AA×Bool)
abbrev Tf:=Ah->Option (AA×Bool)
abbrev AyW:=Bo->Option Bool
abbrev SK:=Bo->Option Bo
abbrev Qk:=Bo->Int->Option (Af×Bool)
abbrev ig:=Af->Af->Option Bool
abbrev UAi:=List Af->Af->Option (List Af)
abbrev AxE:=Bo->Ah->Option (Bo×Bool)
abbrev WT:=AA->Int->Option AA
abbrev AxG:=AA->AA->Option AA
abbrev Zt:=AA->Int->Int->Option (AA×Bool)
abbrev Zu:=AA->Int->AA->Option AA
abbrev Pn:=AA->Int->AA->Option (AA×Bool)
abbrev uJ:=Int->AA->Option Int
abbrev Zv:=AA->Option Int
abbrev Ti:=AA->Option (AA×Bool)
abbrev Xy:=AA->Int->Ah->Option (List Ef×Bool)
abbrev ZAU:=AA->Option Bool
abbrev AyR:=BU->Option Bool
abbrev Avo:=BU->AA->Option Int
abbrev uK:=BU->BQ->Option BU
abbrev Zw:=BU->AA->Option BU
abbrev Zx:=BU->Ef->Option (BU×Bool)
abbrev WQ:=BU->List Ef->Option (BU×Int)
abbrev ABi:=AA->BU->Int->Ah->Option BU
abbrev iY:=AA->AA->Option (Ap×Bool)
abbrev uF:=AA->AA->Option (Bg×Bool)
abbrev iq:=DZ->Int->Option (Bool×DZ)
abbrev VAi:=DZ->List Int->Option (Int×DZ)
abbrev BAV:=DZ->List AA->Option (AA×DZ)
abbrev HAv:=DZ->Int->Option (AA×DZ)
abbrev WAi:=DZ->Option (Af×DZ)
abbrev WU:=Ap->Option AA
abbrev AxO:=AA->AA->Option (AA×Bool)
abbrev IAv:=DZ->Ap->AA->Option (CV×DZ)
abbrev XAi:=DZ->Bg->Option (DW×DZ×Bg)
abbrev SH:=Bg->Int->AA->Option Bg
abbrev iw:=Int->AA->Option (List Ah×Int×AA)
abbrev Ay4:=Int->Option Int
abbrev iy:=List Ah->AA->Option (List Ah×Int×AA)
abbrev Jv:=Ap->Int->Option Int
abbrev Rk:=Ap->CV->Option (List Ah×Int×AA)
abbrev uM:=Int->AA->Option (Af×Bool)
abbrev CAV:=Af->Option (List Ah)
abbrev Zy:=Ap->CV->Af->Bool->Option (List Ah×Int×AA)
abbrev JAv:=AA->AA->Option Bool
abbrev SS:=AA->Int->Option (Int×Int×Bool)
abbrev Zz:=Jz->Option (Int×Jz)
abbrev DAV:=Jz->Int->Option (AA×Jz)
abbrev KAv:=Jz->Option (AA×Jz)
abbrev Z4:=AA->Option (Af×Bool)
abbrev uN:=Af->Option Af
abbrev uO:=Af->Int->Option Bool
abbrev YAi:=Ap->Af->Option Int
abbrev AzE:=AA->Int->Option (List AA)
abbrev Tj:=AA->Int->Int->Int->Int->Option AA
abbrev Z5:=List AA->Int->Option AA
abbrev Z7:=AA->Option (List AA)
abbrev Z8:=Int->Int->AA->AA->Option AA
abbrev Tn:=Int->List AA->Option (List AA)
abbrev uQ:=List AA->Option AA
abbrev uT:=List AA->Int->AA->Option (List AA)
abbrev uU:=List AA->Int->Option (List AA)
abbrev uV:=AA->Int->AA->Option (IL×Bool)
abbrev uX:=AA->Int->AA->Option (Nl×Bool)
abbrev Z9:=IL->Option Bool
abbrev uY:=IL->Option (AA×Bool)
abbrev uZ:=Nl->Option (AA×Bool)
abbrev Tq:=Ap->CV->Af->Option (List Ah×Int×AA)
abbrev Je:=Int->Int->Option Int
abbrev ZAi:=List Int->List Int->Int->Option (List Int)
abbrev GV:=List Int->Option (List Int)
abbrev uf:=AA->Int->Int->Option AA
abbrev Ayu:=AA->Option F6
abbrev WX:=F6->Int->Option (F6×AA)
abbrev aA:=AA->Int->Int->Option (List Int)
abbrev AJc:=AA->Option (List (List Int))
abbrev aB:=AA->Int->Option (AA×Bool)
abbrev Aw2:=AA->Int->Option (List Int)
abbrev Nc:=List Int->Option Bool
abbrev LAv:=List Int->Int->Option (AA×Bool)
abbrev Uk:=List Int->List Int->Option (List Int)
abbrev Tt:=List (List Int)->List (List Int)->Option (List Int)
abbrev aC:=AA->Option (Ky×Bool)
abbrev ug:=AA->Option (List (List Int)×Bool)
abbrev uh:=AA->AA->Option (List Int×Bool)
abbrev uj:=List Int->Int->Option AA
abbrev BAj:=AA->AA->Option (AA×AA×Bool)
abbrev um:=Af->Bool->Bool->Option (Af×Bool)
abbrev uo:=Af->Option AA
abbrev tu:=BU->List Int->Option (BU×Bool)
abbrev iU:=BU->List Ef->Int->List Int->Option (BU×Bool)
abbrev Xz:=BU->AA->Option (AA×Bool)
abbrev aF:=AA->Option (List AA×Int)
abbrev aG:=AA->Option (Ah×Bool)
abbrev X0:=AA->AA->Option (List Ah×Int)
abbrev uq:=Bg->Ah->Option Bg
abbrev OL:=Ap->Option Ap
abbrev CAj:=AA×Bool×List BQ×AA×Int×Unit×Int×AA×Int×Unit×Unit×Int->Option Ap
abbrev Zl:=Bg->Ah->List Int->Option Bg
abbrev DAj:=List CS->Int->Int->Option (List CS)
abbrev Zm:=Ap->CV->Int->Int->Option Ap
abbrev X5:=Bg->Int->DW->Option Bg
abbrev WS:=Bo->Bo->Option Bool
abbrev Zp:=Bo->List Ah->Option (Bo×Bool)
abbrev Tz:=AA->BU->Option (Bo×List Ef×Bool)
abbrev Qn:=Ap->Option Bool
abbrev uw:=Ap->Option (Ap×Bool)
abbrev MAv:=DZ->Unit->Option (PO×DZ)
abbrev NAv:=Unit->Option (AA×AA×List DW)
abbrev EAj:=List Int->AA->Option (List Int)
abbrev OAv:=List Int->AA->Option (List Int×AA)
abbrev PAv:=Af->Option Int
abbrev FAj:=Int->Option (AA×Bool)
abbrev Xx:=BU->Option BU
abbrev EAV:=Bo->Int->Option Int
abbrev QAv:=Bo->Af->Option (Bool×Bo)
abbrev FAV:=Ap->Ah->Option (Bool×Ap)
abbrev X4:=CV->Option Bool
abbrev Zn:=DW->Option Bool
abbrev RAv:=List Af->List Af->Option Bool
abbrev SAv:=Kw->Option (Int×Kw)
abbrev GAj:=AA->Int->Option (AA×Int×Bool)
abbrev TAv:=Kw->Option (AA×Kw)
abbrev HAj:=Bg->Option Bg
abbrev jA:=Int->Option (List Ah×Int×AA)
abbrev jB:=List Int->Int->Option (List Int)
abbrev SBF:=List Int->Int->Int->Bool->Bool->Option (List Int×AA)
abbrev UAv:=List AA->Int->Nat->Nat->Option AA
abbrev VAv:=List AA->Int->Option Bool
abbrev IAj:=AA->Int->Option (List (List Int))
abbrev JAj:=List (List Int)->Option (List (List Int))
abbrev KAj:=AA->Int->Bool->Option (List (List Int))
abbrev WAv:=List Int->List Int->Nat->Option (List Int)
abbrev XAv:=AA->Int->Int->Option (List Int×Bool)
abbrev LAj:=Ap->Int->Int->Option Ap
abbrev MAj:=Bg->DW->Int->Option Bg
abbrev GAV:=AA->AA->List DW->Option (Bg×Bool)
abbrev YAv:=List Int->List Int->Option Bool
abbrev ZAv:=List AA->List AA->Option Bool
abbrev ASW:=List Ah->List Ah->Option Bool
abbrev Zo:=List Ah->Int->Option Int
abbrev Uz:=List D8->Option Bool
abbrev NAj:=List D8->Int->Option (List Int)
abbrev SQ:=Bg->Option Bool
abbrev Zq:=List Ah->Option Bool
def Av7 (a:Int):Bool:=decide (0<=a)
def KZ (a b:Int):Bool:=decide (a<b)
def Ayf (a b:Int):Bool:=(Av7 a) && (KZ a b)
def Awp:AA:=⟨#[]⟩
def TBF:BQ:=(⟨Awp,Awp,0⟩:BQ)
def LZ (a b:AA):Bool:=decide ((a.size+b.size)<=9223372036854775807)
def Oi (a:Nat) (b c:Int):Int:=((BitVec.toNat ((BitVec.ofInt a b) ^^^ (BitVec.ofInt a c)):Nat):Int)
def FC (a:Nat):Bool:=decide (a<=140737488355328)
def X8 (a:AA):List UInt8:=ByteArray.toList a
def Aww (a b:AA):Bool:=(X8 a) == (X8 b)
def Axd (a:Int):Nat:=a.toNat
def Qi (a:List BQ) (b:Int):BQ:=a.getD (Axd b) TBF
def AwK (b:Option (List Ah×Int×AA)):Option (List Ah×Int×AA):=b.bind fun a=>some (a.1,a.2.1,a.2.2)
def AwM:Nat:=IntKind.bits IntKind.u32
def Ayv (a:Int):Int:=AV a
def NM (a:Int):Int:=Ayv (a+1)
def Awq (a:AA):Int:=(a.size:Int)
def Av2 (a b:Int):Bool:=decide (a<=b)
def Hf (a b:Int):Bool:=(Av7 a) && (Av2 a b)
def GZ (a:List Int) (b:Int):Int:=a.getD (Axd b) 0
def Aw3 (a:List Int):Int:=(a.length:Int)
def Qh:Nat:=IntKind.bits IntKind.i64
def AzU (a:DZ):DZ:=⟨(),a.fI,a.AyA⟩
def O1 (b:Option Bool) (c d:Option (BU×Bool)):Option (BU×Bool):=b.bind fun a=>cond (!a) c d
def Eb (a:List Af) (b:Int) (c:Af):Af:=a.getD (Axd b) (c:Af)
def BAw:List Int:=[(1116352408:Int),(1899447441:Int),(3049323471:Int),(3921009573:Int),(961987163:Int),(1508970993:Int),(2453635748:Int),(2870763221:Int),(3624381080:Int),(310598401:Int),(607225278:Int),(1426881987:Int),(1925078388:Int),(2162078206:Int),(2614888103:Int),(3248222580:Int),(3835390401:Int),(4022224774:Int),(264347078:Int),(604807628:Int),(770255983:Int),(1249150122:Int),(1555081692:Int),(1996064986:Int),(2554220882:Int),(2821834349:Int),(2952996808:Int),(3210313671:Int),(3336571891:Int),(3584528711:Int),(113926993:Int),(338241895:Int),(666307205:Int),(773529912:Int),(1294757372:Int),(1396182291:Int),(1695183700:Int),(1986661051:Int),(2177026350:Int),(2456956037:Int),(2730485921:Int),(2820302411:Int),(3259730800:Int),(3345764771:Int),(3516065817:Int),(3600352804:Int),(4094571909:Int),(275423344:Int),(430227734:Int),(506948616:Int),(659060556:Int),(883997877:Int),(958139571:Int),(1322822218:Int),(1537002063:Int),(1747873779:Int),(1955562222:Int),(2024104815:Int),(2227730452:Int),(2361852424:Int),(2428436474:Int),(2756734187:Int),(3204031479:Int),(3329325298:Int)]
def AxK:Nat:=IntKind.bits IntKind.u64
def Ax6 (a:AA):AA:=(a:AA)
def Sl (a:BU) (b:Int):BQ:=Qi a.Ak b
def IZ:BU:=⟨[]⟩
def Mc:Bo:=⟨Awp,0,[],0,Awp,0⟩
def Eh (a:List BQ) (b:Int):Int:=Awq (Qi a b).fText
def GR (a:List Ah) (b:Int) (c:AA) (d:Af):Ah:=a.getD (Axd b) (⟨0,c,0,d⟩:Ah)
def Qa:Int:=(0:Int)
def Fa (a:Int) (b:Nat):Bool:=Ayf a (b:Int)
def QG (a:Nat) (b c:Int):Int:=((BitVec.toNat ((BitVec.ofInt a b) &&& (BitVec.ofInt a c)):Nat):Int)
def OT (c:iq) (d:DZ) (e:DW) (b:Bg) (f:DW):Option (DW×DZ×Bg):=(c (AzU d) 30).bind fun a=>cond a.1 (some (e,AzU a.2,b)) (some (f,AzU a.2,b))
def Om (b a c:Int):Bool:=(Hf b a) && (Av2 a c)
def Nh (a:Int):Int:=Ayv ((a.tmod 56)*3)
def La (a:Ap):Bo:=a.AU
def X6 (a:Bg):Bo:=La a.AX
def aH (c:Tf) (d:Ah) (e:Bool) (b:Option (Ah×Bool)) (f:AA) (g:Option (Ah×Bool)):Option (Ah×Bool):=(c d).bind fun a=>cond e b (cond (!a.2) b (cond (!(Aww a.1 f)) b g))
def WR (a b:Int):Bool:=(decide (a<=a)) && (decide (0<b))
def CAw:AA:=Ax6 ⟨#[48,48,48,49,48,50,48,51,48,52,48,53,48,54,48,55,48,56,48,57,49,48,49,49,49,50,49,51,49,52,49,53,49,54,49,55,49,56,49,57,50,48,50,49,50,50,50,51,50,52,50,53,50,54,50,55,50,56,50,57,51,48,51,49,51,50,51,51,51,52,51,53,51,54,51,55,51,56,51,57,52,48,52,49,52,50,52,51,52,52,52,53,52,54,52,55,52,56,52,57,53,48,53,49,53,50,53,51,53,52,53,53,53,54,53,55,53,56,53,57,54,48,54,49,54,50,54,51,54,52,54,53,54,54,54,55,54,56,54,57,55,48,55,49,55,50,55,51,55,52,55,53,55,54,55,55,55,56,55,57,56,48,56,49,56,50,56,51,56,52,56,53,56,54,56,55,56,56,56,57,57,48,57,49,57,50,57,51,57,52,57,53,57,54,57,55,57,56,57,57]⟩
def Ic (a:Int):Nat:=Axd (Ayv a)
def WY (a:Nat) (b:Int):Int:=((BitVec.toNat ((BitVec.ofInt a b) &&& (BitVec.ofInt a 1)):Nat):Int)
def Jf (a:List AA) (b:Int) (c:AA):AA:=a.getD (Axd b) (Ax6 c)
def Rf (a:List Int):Bool:=Nat.beq 25 a.length
def Nj (a b:Nat):Int:=2 ^ (Min.min a b)
def Av1 (a:Int) (b:List Int):Bool:=Ayf (Ayv a) (Aw3 b)
def QH:Nat:=IntKind.bits IntKind.u8
def Qd (a:Ap):List EG:=a.BP
def AyC (a:BU×Bool):Option (BU×Bool):=some a
def Aza (a:AyR) (b:BU) (c d:BU×Bool):Option (BU×Bool):=O1 (a b) (AyC c) (AyC d)
def H6 (a:AyR) (b:BU) (c d:BU×Bool):Option (BU×Bool):=O1 (a b) (AyC c) (AyC d)
def AxZ (a b:Int):Int:=Ayv (a+b)
def OU (a b:Int):Int:=AxZ (Ayv a) (Ayv b)
def OQ (a:List D8) (b:Int):D8:=a.getD (Axd b) (⟨0,0,0⟩:D8)
def Ax9 (b:Option AA):Option AA:=b.bind fun a=>some a
def Awf (a:Bo):List Af:=a.AZ
def Aw5 (a:Bo):Nat:=(Awf a).length
def QI:AA:=⟨#[98,111,111,107,43]⟩
def Axg (a:Bool) (b c:Option Bool):Option Bool:=cond a b c
def Awc (b c d:Option Bool):Option Bool:=b.bind fun a=>Axg a c d
def Ul (a:BU) (b:Int):AA:=(Sl a b).fText
def Q5 (a:AA):Bool:=decide (a.size<=9223372036854775807)
def FD (a:List AA):Int:=(a.length:Int)
def SV (a:Int):List Int:=List.replicate (Axd a) Qa
def Vz (a:List BQ):Bool:=FC ((a.length+1)*40)
def aI (a:List BQ) (b:Int):List BQ:=(a.drop 0).take ((Axd b) - 0)
def DAw (a:Int) (b:List BQ) (c:BQ):Option BU:=cond (Hf a (b.length:Int)) (cond (FC ((aI b a).length*40)) (cond (Vz (aI b a)) (cond (Hf a (b.length:Int)) (cond (FC ((((aI b a)++[c]).length+((b.drop (Axd a)).take (b.length - (Axd a))).length)*40)) (some ⟨((aI b a)++[c])++((b.drop (Axd a)).take (b.length - (Axd a)))⟩) none) none) none) none) none
def Awa (a:BU):Nat:=a.Ak.length
def Nb (a:Af):Int:=a.Aj
def HAV (f:Af) (a:Int) (b c:Bool) (d e:Option Bool):Option Bool:=Axg ((Nb f) == 1) (Axg (a == 1) (some b) (Axg c d e)) (Axg (a == 2) (some b) (Axg c d e))
def Oc (a:Af):AA:=a.fValue
def uy (a:Af):Option Bool:=some (decide ((Awq (Oc a))<=100))
def Aw9 (a b:Int):Int:=Ayv (a - b)
def Nk:Int:=Aw9 (168:Int) Qa
def Fb (a:Int) (b:List Int):Bool:=Ayf a (Aw3 b)
def AwY (a:Af):Bool:=a.GH
def GU (a:Af):Bool:=a.Gw
def X9 (a:Af) (b c:Bool):Af:=⟨a.fId,Nb a,b,c,GU a,AwY a,Oc a,a.fNext⟩
def Vj (a:AA) (b c:Int):AA:=a.extract (Axd b) (Ic c)
def Vl (a:List EG) (b:Int) (c:EG):EG:=a.getD (Axd b) (c:EG)
def Jy (a:List Int):Bool:=Nat.beq 8 a.length
def Av5 (a:Int):Int:=Ayv (a.tdiv 2)
def Awi (a:BU) (b:Int):Int:=(Sl a b).J3
def YA (a:BU) (b:Int) (c:Ef):BQ:=⟨(Sl a b).fName,(Ul a b)++c.fText,Awi a b⟩
def OAj:CS:=(⟨0,0⟩:CS)
def AxL (a:Bool) (b:Option AA):Option AA:=cond a b none
def IAV (a:DZ):Int:=Ayv ((Ayv (a.AyA*6364136223846793005))+1442695040888963407)
def WO (a:BQ) (b:AA) (c:Nat):BQ:=(⟨a.fName,b.extract 0 c,a.J3⟩:BQ)
def Ayo (a:Nat):Bool:=FC (a*16)
def AxW (a:List AA):Bool:=Ayo (a.length+1)
def PAj (a:Int):Bool:=((Av7 a) && (decide (a<=a))) && (decide (a<=9223372036854775807))
def Un (b:Option Bg):Option Bg:=b.bind fun a=>some a
def SI:AA:=⟨#[98,111,111,107]⟩
def Vk (a:AA) (b:Int):Int:=Ayv (bt a b)
def jC (a:F6×AA) (b:Int):Int:=OU (bt a.2 (Nh b)) (256*((Vk a.2 (NM (Nh b))).tmod 16))
def Me (a:Ap):Nat:=(Qd a).length
def aJ (a:Int):Int:=(Ayv a).tmod 3329
def jD (a b:Int):Int:=aJ (a*b)
def AzV (a:List Int) (b:Int):Int:=GZ a (Ayv b)
def JAV (a:List Int) (b c d:Int):List Int:=a.set (Ic (b+c)) (aJ ((Aw9 (GZ a b) (jD d (AzV a (b+c))))+3329))
def EAw (b c a:Int×Kw) (d:AA×Kw) (e:Int×Kw):Af:=⟨b.1,c.1,(Ayv (WY Qh a.1)) != 0,(Ayv ((BitVec.toNat ((BitVec.ofInt Qh a.1) &&& (BitVec.ofInt Qh 2)):Nat):Int)) != 0,(Ayv ((BitVec.toNat ((BitVec.ofInt Qh a.1) &&& (BitVec.ofInt Qh 4)):Nat):Int)) != 0,(Ayv ((BitVec.toNat ((BitVec.ofInt Qh a.1) &&& (BitVec.ofInt Qh 8)):Nat):Int)) != 0,d.1,e.1⟩
def Jw (a:Int):Bool:=decide (a>=0)
def FK (a:Bool) (b:Option (AA×Bool)):Option (AA×Bool):=cond a b none
def OV (b:Int) (c:Bool) (a d:Option (BU×Bool)) (e:Bool) (f:Option (BU×Bool)):Option (BU×Bool):=cond (b == 3) (cond c a d) (cond e f a)
def jE (a:AA) (b:Int):Int:=OU (bt a (Nh b)) (256*((Vk a (NM (Nh b))).tmod 16))
def O8 (b:Option Bool):Option Bool:=b.bind fun a=>some a
def Awt (a:Ah):Af:=a.Ag
def Qx (a:Ap):Int:=(La a).BM
def AyD (a:Ap):Int:=NM (Qx a)
def OW (a:List Int):Bool:=FC ((a.length+1)*1)
def uz (a b:BQ):Bool:=Op.bytesLess (X8 a.fName) (X8 b.fName)
def Aym (a:BU) (b:Int):Int:=Awq (Ul a b)
def YB (a:BU) (b:Int):BQ:=⟨(Sl a b).fName,Ul a b,Aym a b⟩
def QJ (a:AA) (b:Int):AA:=a.extract (Axd b) a.size
def Qy (a:Ap):List BQ:=a.Bc.Ak
def He (a:Bg):List AA:=a.EN
def Ay1 (a:CV):Int:=a.EJ
def KAV (a:CV×DZ) (b:Bg) (c:Int×DZ):CV:=⟨a.1.Au,Ay1 a.1,a.1.Ag,a.1.Aj,Jf (He b) c.1 Awp,a.1.CY,a.1.CX⟩
def PD (a:List Int):Bool:=FC ((a.length+1)*8)
def PI (a:Bo):Int:=NM a.fCount
def LAV (a:Int):Int:=((BitVec.toNat ((BitVec.ofInt Qh a) ^^^ (BitVec.ofInt Qh 1)):Nat):Int)
def QK:AA:=Ax6 ⟨#[116]⟩
def AwX:Int:=(1:Int)
def AxU (a:List Int):Option AA:=some (ofBytes a)
def Axq (a:Int):Int:=NM (Ayv (2*a))
def vC (b:Int) (c:AA) (d a:Int):Int:=AxZ b (Ayv (((Vk c (AxZ d a)).tmod 128)*(Nj (Ic (7*a)) Qh)))
def MZ (a:AA×Bool):Option (AA×Bool):=some a
def Oq (a:Ef):Bool:=Aww a.I8 a.fName
def Awz (a b:List Int):Bool:=Nat.beq a.length b.length
def YC (a:Ef):BQ:=⟨a.fName,(Ax6 Awp)++a.fText,0⟩
def Ayn (a:Int):Bool:=decide (a<0)
def aK:AA:=⟨#[112,111,108,105,99,121]⟩
def AzC (a:Int):Bool:=decide (a > 0)
def Av9 (a:Int) (b:Nat):Bool:=KZ a (b:Int)
def Ay8 (a:Int):Int:=wu64 a
def QAj (a:Int):Int:=Ay8 ((BitVec.toNat ((BitVec.ofInt AxK (Ay8 a)) &&& (BitVec.ofInt AxK 31)):Nat):Int)
def RAj (a:Int):Int:=Ay8 ((BitVec.toNat ((BitVec.ofInt AxK (Ay8 a)) &&& (BitVec.ofInt AxK 63)):Nat):Int)
def AzL (a:List Int):Bool:=Nat.beq 64 a.length
def PK (a:Int):Bool:=(a.tmod 2) == 1
def QL (a:F6):Int:=Ayv (168 - a.ER)
def SAj (a:Nat) (b:Int):Int:=((BitVec.toNat ((BitVec.ofInt a b) &&& (BitVec.ofInt a 255)):Nat):Int)
def Vx (a:Int):Int:=Nj (Axd a) Qh
def Qs (a b:Int):Int:=Int.fdiv a b
def FAw (a:DZ):Int:=SAj Qh (Ayv (Oi Qh (Qs (IAV a) (Vx (33:Int))) (Qs (IAV a) (Vx (45:Int)))))
def Ju (a:Bg):Int:=(X6 a).fCount
def GAw:AA:=Ax6 ⟨#[48,49,50,51,52,53,54,55,56,57,97,98,99,100,101,102,103,104,105,106,107,108,109,110,111,112,113,114,115,116,117,118,119,120,121,122]⟩
def Tc (a:Bo):AA:=a.Dh
def MAV (a:F6×AA) (b:Int):Int:=OU ((Vk a.2 (NM (Nh b))).tdiv 16) (16*(Vk a.2 (Ayv ((Nh b)+2))))
def aO (a:Nat) (b c:Int):Int:=((BitVec.toNat ((BitVec.ofInt a b) ||| (BitVec.ofInt a c)):Nat):Int)
def aP (a:AA):AA:=a.extract 0 (Ic ((Awq a) - 16))
def Gy (a:Ap):Int:=a.CW
def Ax5 (a:Bo):Int:=a.DU
def YD (a:Bo) (b:List Af) (c:AA) (d:Bo):Bo:=⟨a.Bv,Ax5 a,b,a.BM,c,PI d⟩
def NAV (a:AA) (b:Int):Int:=OU ((Vk a (NM (Nh b))).tdiv 16) (16*(Vk a (Ayv ((Nh b)+2))))
def U2 (a:AA):Bool:=(Awq a) == 32
def OAV (a:Af):Option Bool:=Axg ((Nb a) == 3) (uy a) (some (U2 (Oc a)))
def YE (a:Ef):BQ:=⟨a.fName,Awp,Awq (Ax6 Awp)⟩
def WZ (a b:Int):Int:=Qs a (Nj (Axd b) AwM)
def Qe (a:Ap):List CS:=a.BD
def NS (a:Ap):Nat:=(Qe a).length
def YF (a:Bo) (b:List Af) (c:Ah) (d:AA) (e:Bo):Bo:=⟨a.Bv,Ax5 a,b,(Awt c).fId,d,PI e⟩
def TAj (a:Int):Int:=Ayv ((BitVec.toNat ((BitVec.ofInt Qh (Ayv a)) ^^^ (BitVec.ofInt Qh 113)):Nat):Int)
def HAw (a:DW×DZ×Bg):DW:=⟨⟨a.1.BA.Au,Ay1 a.1.BA,a.1.BA.Ag,a.1.BA.Aj,⟨#[108,111,110,103]⟩,a.1.BA.CY,a.1.BA.CX⟩,a.1.Nr,a.1.Lc,a.1.JY⟩
def PAV (b:AA) (a:Int):Int:=Ayv (Qs (bt b (Av5 a)) (Nj (Ic (4*(a.tmod 2))) QH))
def X3 (a:List CS) (b:Int):List CS:=(a.drop 0).take ((Axd b) - 0)
def aQ:List Int:=List.replicate 25 Qa
def Aws (a:Bool) (b c:Bo×Bool):Option (Bo×Bool):=cond (!a) (some b) (some c)
def Us (a:Nat) (b c:Int):Int:=w32 (Oi a b c)
def jF (a b:Int):Int:=Us AwM (w32 a) (w32 b)
def Si (a:List BQ) (b:Int):Int:=(Qi a b).J3
def Pq (a:List CS) (b:Int):CS:=a.getD (Axd b) OAj
def Ayh (a:Ef):Bool:=a.Aj == 1
def Av0 (a:Ef):Bool:=a.Aj == 2
def Ayj (a:Ef):Bool:=a.Aj == 4
def Ayg (a:AA) (b:Int):AA:=a.extract 0 (Axd b)
def U3 (a:Int×Int×Bool):Int:=(Ayv (a.2.1+4))+a.1
def Ayy (a:Int):Bool:=a == 0
def AzG (a b:Int):Int:=a+(Ayv (5*b))
def jG:AA:=⟨#[102,117,108,108]⟩
def AyO (a:Int):Bool:=decide (a<256)
def IAw (a:List Int):List Int:=a.set (Ic ((Aw3 a) - 1)) (w8 ((BitVec.toNat ((BitVec.ofInt QH (AzV a ((Aw3 a) - 1))) ^^^ (BitVec.ofInt QH 128)):Nat):Int))
def AyV (a:Int):Int:=Ayv (a - 1)
def AwL (a:Int):Int:=a.tmod 5
def YG (a:List (List Int)):Bool:=FC ((a.length+1)*24)
def AzT (a:Af):Bool:=a.CY
def AzB (a:AA):List Int:=bytesOf a
def vF (a:List Int) (b:AA):Bool:=FC ((a.length+(AzB b).length)*1)
def YH (a:Ef):Bool:=LZ (Ax6 Awp) a.fText
def U4:Option Int:=some (-AwX)
def AyU (a:Bg):AA:=a.AX.BO
def vG:AA:=Ax6 ⟨#[111,117,116]⟩
def iW (a:List CS) (b:Nat) (c:Int):List CS:=(a.drop b).take (a.length - (Axd c))
def QD (a:List Ah):Int:=(a.length:Int)
def NV (a:Bg):Int:=(X6 a).BM
def JAw:List Int:=[1779033703,3144134277,1013904242,2773480762,1359893119,2600822924,528734635,1541459225]
def YI:List Int:=SV (256:Int)
def QM:Int:=(4:Int)
def NZ (a:Int) (b:List AA):Bool:=Fa a b.length
def Awk (a:Af):Bool:=a.CX
def Ay0 (a:Bg):AA:=(X6 a).Bv
def Avi (a b:Int):Bool:=decide (a>=b)
def QAV (a:AA):AA:=a.extract (Ic ((Awq a) - 32)) a.size
def RAV (a:AA):Bool:=(Av2 Qa AwX) && (decide (1<=(Awq a)))
def Axa (a:Bo) (b:AA×Bool):Bool:=LZ (Tc a) b.1
def SAV:AA:=⟨#[119,114,111,110,103]⟩
def Ik (a:Bool) (b:Option Ap):Option Ap:=cond a b none
def YJ (c:Ef) (a:BU) (b:Int):BQ:=⟨c.I8,Ul a b,Awi a b⟩
def SG (a:List Ef):Int:=(a.length:Int)
def Qp (a:Bg):Int:=Ax5 (X6 a)
def Axy (a:Bg):Int:=Gy a.AX
def Qm (a:Int) (b:BU):Bool:=Fa a (Awa b)
def JG (a:Bool) (b:Option (List Int)):Option (List Int):=cond a b none
def Aw0 (a:Int) (b:List D8):Bool:=Fa a b.length
def jH:AA:=Ax6 ⟨#[109]⟩
def TAV (a:Int):Bool:=(Av2 Qa (2:Int)) && (decide (2<a))
def Ayd (a:Bg):Bool:=a.AX.CZ
def AwG (a:Ap):Int:=Ax5 (La a)
def SL (a:Ap):Int:=(La a).fCount
def KAw (i:AzI) (b:AA) (f:WT) (g:AA) (h:AwT):Option AA:=(i (Ayv (64 - (Awq b)))).bind fun a=>AxL (LZ b a) ((f (b++a) 92).bind fun c=>(f (b++a) 54).bind fun d=>AxL (LZ d g) ((h (d++g)).bind fun e=>AxL (LZ c e) (Ax9 (h (c++e)))))
def UAV (a:List Int):Bool:=(Av2 Qa QM) && (decide (4<(Aw3 a)))
def VAV (a:List AA):Option AA:=AxL (WR Qa (FD a)) (some (Jf a Qa Awp))
def Awg (a b c:AA):Bool:=LZ (a++b) c
def AxA (a:Bg):AA:=Tc (X6 a)
def QF (a:Int) (b:List Ah):Bool:=Fa a b.length
def LAw (a:AA) (b:Int):List Ef:=[(⟨4,QI,Awp,Awp⟩:Ef)]++[(⟨1,QI,Ayg a b,Awp⟩:Ef),(⟨2,QI,Awp,Awp⟩:Ef),(⟨3,QI,Awp,SI⟩:Ef)]
def U5 (a:Int):Bool:=decide (a<2)
def jI:AA:=Ax6 ⟨#[32]⟩
def iV (a:List Ah):Bool:=FC ((a.length+1)*80)
def UAj (a:Int):Int:=w32 ((w32 ((2147483648:Int).tdiv a))*2)
def AzP:Option AA:=some Awp
def NC (a:Int) (b:AA):Int:=Aw9 a (Awq b)
def Wh (a:Int):Bool:=a == a
def Md (a:List Int):Option (List Int):=some a
def YK (a:Ef):BQ:=⟨a.I8,Awp,0⟩
def WAV (a:AA):Bool:=Hf (Ayv ((Awq a) - 16)) (Awq a)
def QE (a:Int):Nat:=Axd (NM a)
def AxR (a:List Int):Bool:=WR Qa (Aw3 a)
def ND (a:Bo):Int:=(Aw5 a:Int)
def F9 (a:Bg):List D8:=a.Cm
def jJ:IL:=⟨0,[],[]⟩
def jK (a:Ah):Bool:=Aww (Oc (Awt a)) Awp
def VAj:List AA:=[⟨#[97]⟩,⟨#[98]⟩,⟨#[99]⟩]
def jL (a:Int):Int:=Ayv (a.tdiv 16)
def Ayt (a b:Int):Bool:=decide (a > b)
def Avy (a:Int):Int:=a.tdiv 8
def vH:AA:=Ax6 ⟨#[108]⟩
def aU (a:Int):Int:=Ayv (a.tdiv 4)
def jM (a b:Int):Int:=AwL (OU (2*a) (3*b))
def MAw (a:AA):Bool:=((Av2 Qa (768:Int)) && (Av2 (768:Int) (1568:Int))) && (decide (1568<=(Awq a)))
def O4 (a:Bg):List BQ:=Qy a.AX
def O7 (a:Bg):List CS:=Qe a.AX
def XAV (a:Int):Bool:=(Av2 Qa AwX) && (decide (1<a))
def JD (a:Bool) (b:Option (BU×Bool)):Option (BU×Bool):=cond a b none
def Gt (a:Bg):List Af:=Awf (X6 a)
def aV (a:Int):Bool:=decide (a<3329)
def NAw (a b:Int):Int:=Ayv ((Aw9 (Aw9 (AxZ (a.tmod 2) (b.tmod 2)) ((aU a).tmod 2)) ((Ayv (Avy a)).tmod 2))+3329)
def O6 (a:Bg):List EG:=Qd a.AX
def X7 (a:Af×Bool) (b:List Af) (c:Int) (d:Af):Bool:=KZ a.1.fNext (Eb b c d).fNext
abbrev mk {R:Type} (c:R) {x:R} (_h:x=c:=by (first|delta Ayf TBF Awp LZ Oi FC Aww Qi AwK AwM NM Awq Hf GZ Aw3 Qh AzU O1 Ayv Eb BAw AxK Ax6 Sl IZ KZ Mc Eh GR Qa Fa QG OT Om Nh X6 aH WR CAw Ic WY Jf Rf Nj Av1 QH Qd Aza H6 OU OQ Ax9 Aw5 Awf QI Awc Ul Q5 Av2 FD SV DAw Awa HAV uy Nk Fb X9 Vj Vl Jy Av5 YA Axd OAj AxL IAV WO AxW PAj Un SI jC Me Vk JAV EAw Jw FK OV jE O8 Awt AyD OW uz YB QJ Qy AzV KAV PD PI LAV QK AwX AxU Axq vC MZ Oq Awz YC Aw9 Ayn aK AzC Av9 Av7 QAj RAj AzL PK QL FAw Vz Ju GAw Tc MAV aO aP Gy YD NAV OAV Awi YE WZ NS YF TAj HAw PAV He X3 aQ Aws Ay8 jF Ax5 Si Pq Ayh Av0 Ayj Ayg U3 Ayy AzG jG La AyO IAw AyV AwL aI YG AzT vF AyC YH Oc U4 AyU vG iW Aym QD NV JAw YI QM Qe NZ SAj Awk Ay0 Avi Axg QAV Vx Ay1 RAV Axa SAV Ik X8 YJ SG Qp Axy Qm JG Aw0 jH TAV Ayd AwG SL KAw UAV AzB VAV AwY Awg AxA QF LAw U5 jI iV UAj Us AzP Qx NC Ayo Qs Wh AxZ Md GU jD YK WAV QE AxR ND F9 jJ jK VAj jL Ayt Avy vH aU jM MAw O4 O7 XAV Nb JD Gt U2 aV NAw O6 X7 aJ|skip);exact rfl):R:=x
def UBF:XAU:=fun a=>mk (some (decide ((Aw3 KI) > 1048576)))
def OAw:XAU:=UBF
def HBV:Avb:=BI u1 OAw wY E8 [] Tryz.func6 UBF
inductive YAV where
 |c0 (a b:Int)
def IBV:YAV->Avm
 |.c0 a b=>(tdo Tryz.f27 464,[(0,[.one (.J4)]),vi 3 a,vi 4 b],[])
def PAw (k:Aw7 YAV DZ):BAv:=fun a=>mk (k (.c0 (Ayv (27401+(Aw3 KI))) 0))
def WAj (k:Aw7 YAV DZ):Aw7 YAV DZ
 |.c0 b a=>mk (cond (KZ a (Aw3 KI)) (cond (a<4000) (cond (Fb a KI) (cond (Nat.blt (Axd a) KI.length) (k (.c0 (Ayv ((BitVec.toNat ((BitVec.ofInt Qh (Ayv ((OU (b*131) (GZ KI a))+7))) &&& (BitVec.ofInt Qh 1073741823)):Nat):Int)) (NM a))) none) none) (some ⟨(),0,b⟩)) (some ⟨(),0,b⟩))
def rC:AzH YAV DZ
 |0,_=>none
 |m+1,s=>WAj (rC m) s
def XAj:BAv:=PAw (rC AY)
def JBV:Avb:=fy u1 XAj wY cv2 [] Tryz.func27 IBV WAj PAw rC
def QAw:YAU:=fun a=>mk (cond (KZ a.fI (Aw3 KI)) (cond (Ayf a.fI (Aw3 KI)) (cond (Nat.blt (Axd a.fI) KI.length) (some (Ayv (SAj Qh (OU (FAw a) (GZ KI a.fI))),⟨(),NM a.fI,IAV a⟩)) none) none) (some (Ayv (FAw a),⟨(),a.fI,IAV a⟩)))
def rE:YAU:=QAw
def VBF:Avb:=BI u1 rE cv3 cv4 [] Tryz.func103 QAw [0]
def RAw (b:YAU):AxN:=fun c a=>mk (cond (a<=0) (some (0,AzU c)) (cond (a<=256) ((b (AzU c)).bind fun d=>cond (!(Ayy a)) (some (d.1.tmod a,AzU d.2)) none) ((b (AzU c)).bind fun e=>(b (AzU e.2)).bind fun f=>(b (AzU f.2)).bind fun g=>(b (AzU g.2)).bind fun h=>cond (!(Ayy a)) (some ((AxZ (OU ((Ayv (e.1*16777216))+(Ayv (f.1*65536))) (g.1*256)) h.1).tmod a,AzU h.2)) none)))
def AyT:AxN:=RAw rE
def jO:Avb:=BI u2 AyT cv5 cv4 [VBF] Tryz.func58 RAw [0]
inductive ZAV where
 |c0 (a b d:Int) (e:(List Int))
def KBV:ZAV->Avm
 |.c0 a b d e=>(tdo Tryz.f57 464,[vi 0 a,(1,[.one (.int .u8 b)]),vo 5 368,vi 6 d],[(368,.sl 5 e)])
def SAw (k:Aw7 ZAV AA):Zr:=fun a b=>mk (cond ((PAj a) && (FC ((Axd a)*1))) (k (.c0 a b 0 (SV a))) none)
def YAj (k:Aw7 ZAV AA):Aw7 ZAV AA
 |.c0 c d a b=>mk (cond (KZ a c) (cond (Fb a b) (k (.c0 c d (NM a) (b.set (Axd a) d))) none) (AxU b))
def rF:AzH ZAV AA
 |0,_=>none
 |m+1,s=>YAj (rF m) s
def gV:Zr:=SAw (rF AY)
def WBF:Avb:=fy u2 gV cv6 Cc [] Tryz.func57 KBV YAj SAw rF
def XBF:Azb:=mk (Md JAw)
def YBF:Azb:=XBF
def LBV:Avb:=BI u0 YBF Yc cv9 [] Tryz.func181 XBF
inductive AB6 where
 |c0 (a:(List Int)) (b:Int) (d:(List Int))
def MBV:AB6->Avm
 |.c0 a b d=>(tdo Tryz.f180 464,[vr 0 108 a,vo 3 240,vi 4 b],[(240,.sl 5 d)])
def ZBF (k:Aw7 AB6 AA):Avk:=fun a=>k (.c0 a 0 [])
def ZAj (k:Aw7 AB6 AA):Aw7 AB6 AA
 |.c0 b a c=>mk (cond (KZ a (Aw3 b)) (cond (Fb a b) (cond (FC ((c.length+4)*1)) (k (.c0 b (NM a) (c++[w8 (w32 ((GZ b a).tdiv 16777216)),w8 ((w32 ((GZ b a).tdiv 65536)).tmod 256),w8 ((w32 ((GZ b a).tdiv 256)).tmod 256),w8 ((GZ b a).tmod 256)]))) none) none) (AxU c))
def rH:AzH AB6 AA
 |0,_=>none
 |m+1,s=>ZAj (rH m) s
def gZ:Avk:=ZBF (rH AY)
def TAw:Avb:=fy u1 gZ AfP Cc [] Tryz.func180 MBV ZAj ZBF rH
def AaX (c:Azb) (d:Avk):CAv:=mk (c.bind fun a=>(d a).bind fun b=>some ⟨b,Awp,0⟩)
def UAw:CAv:=AaX YBF gZ
def NBV:Avb:=BI u0 UAw Yc AEj [LBV,TAw] Tryz.func126 AaX
def BBG:Va:=fun a b c=>mk (Axg (Avi a b) (some (Av2 a c)) (some false))
def AzN:Va:=BBG
def AzY:Avb:=BI u3 AzN AVC E8 [] Tryz.func80 BBG
def VAw (b:Va):uH:=fun a=>mk (Axg (U2 a.F7) (Axg ((Awq a.Np)<64) (Awc (b a.fCount 0 1000000000) (some ((a.fCount.tmod 64) == (Awq a.Np))) (some false)) (some false)) (some false))
def Xo:uH:=VAw AzN
def CBG:Avb:=BI u1 Xo AEj E8 [AzY] Tryz.func176 VAw
def WAw:SAi:=fun b a=>mk (cond (Ayf a (Awq b)) (cond (Ayf (NM a) (Awq b)) (cond (Ayf (Ayv (a+2)) (Awq b)) (cond (Ayf (Ayv (a+3)) (Awq b)) (some (w32 ((w32 ((w32 ((w32 ((w32 (bt b a))*16777216))+(w32 ((w32 (bt b (NM a)))*65536))))+(w32 ((w32 (bt b (Ayv (a+2))))*256))))+(w32 (bt b (Ayv (a+3))))))) none) none) none) none)
def BAW:SAi:=WAw
def OBV:Avb:=BI u2 BAW Q9 UG [] Tryz.func238 WAw
inductive CAW where
 |c0 (a:AA) (b:Int) (d:(List Int))
def PBV:CAW->Avm
 |.c0 a b d=>(tdo Tryz.f177 464,[vs 0 a,vo 3 240,vi 4 b],[(240,.sl 108 d)])
def DBG (b:SAi) (k:Aw7 CAW (List Int)):Ayz:=fun a=>k (.c0 a 0 [])
def AIK (a:SAi) (k:Aw7 CAW (List Int)):Aw7 CAW (List Int)
 |.c0 c b d=>mk (cond (Av2 (Ayv (b+4)) (Awq c)) ((a c b).bind fun e=>cond (FC ((d.length+1)*4)) (k (.c0 c (Ayv (b+4)) (d++[e]))) none) (Md d))
def rJ:AzH CAW (List Int)
 |0,_=>none
 |m+1,s=>AIK BAW (rJ m) s
def Xp:Ayz:=DBG BAW (rJ AY)
def XAw:Avb:=fy u1 Xp Cc cv9 [OBV] Tryz.func177 PBV AIK DBG rJ
def EBG:Azb:=mk (Md [1116352408,1899447441,3049323471,3921009573,961987163,1508970993,2453635748,2870763221,3624381080,310598401,607225278,1426881987,1925078388,2162078206,2614888103,3248222580,3835390401,4022224774,264347078,604807628,770255983,1249150122,1555081692,1996064986,2554220882,2821834349,2952996808,3210313671,3336571891,3584528711,113926993,338241895,666307205,773529912,1294757372,1396182291,1695183700,1986661051,2177026350,2456956037,2730485921,2820302411,3259730800,3345764771,3516065817,3600352804,4094571909,275423344,430227734,506948616,659060556,883997877,958139571,1322822218,1537002063,1747873779,1955562222,2024104815,2227730452,2361852424,2428436474,2756734187,3204031479,3329325298])
def rO:Azb:=EBG
def FBG:Avb:=BI u0 rO Yc cv9 [] Tryz.func178 EBG
def YAw:DAv:=fun b a c=>mk (cond (!(Ayy a)) (cond (!(Ayy a)) (some (w32 ((w32 (b.tdiv a))+(w32 ((b.tmod a)*c))))) none) none)
def BAk:DAv:=YAw
def QBV:Avb:=BI u3 BAk AfQ UG [] Tryz.func274 YAw
def rM (e:DAv):TAi:=fun b c f a i=>mk (cond (!(Ayy c)) ((e b c (UAj c)).bind fun d=>cond (!(Ayy f)) ((e b f (UAj f)).bind fun g=>cond (!(Ayy a)) (cond (!i) (cond (!(Ayy a)) ((e b a (UAj a)).bind fun h=>some (Us AwM (Us AwM d g) h)) none) (some (jF (Oi AwM d g) (b.tdiv a)))) none) none) none)
def Awv:TAi:=rM BAk
def RBV:Avb:=BI u5 Awv AfR UG [QBV] Tryz.func239 rM
inductive DAW where
 |c0 (a b:(List Int)) (g:Int) (d:(List Int))
 |c1 (a b:(List Int)) (f:Int) (d e:(List Int))
 |c2 (a b:(List Int)) (f h:Int) (i j:Int) (d e:(List Int))
 |c3 (a:(List Int)) (l:Int) (e n:(List Int))
def SBV:DAW->Avm
 |.c0 a b g d=>(tdo Tryz.f179 464,[vr 0 108 a,vr 1 108 b,vo 7 496,vi 8 g],[(496,.sl 108 d)])
 |.c1 a b f d e=>(tdo Tryz.f179 2000,[vr 0 108 a,vr 1 108 b,vo 7 496,vo 9 624,vi 10 f],[(496,.sl 108 d),(624,.sl 108 e)])
 |.c2 a b f h i j d e=>(tdo Tryz.f179 8202192,[vr 0 108 a,vr 1 108 b,vo 7 496,vo 9 624,vi 10 f,(13,[.one (.int .u32 h)]),(15,[.one (.int .u32 i)]),vi 16 j],[(496,.sl 108 d),(624,.sl 108 e)])
 |.c3 a l e n=>(tdo Tryz.f179 8144,[vr 0 108 a,vo 9 624,vo 17 1136,vi 18 l],[(624,.sl 108 e),(1136,.sl 108 n)])
def ZAw (b:Ayz) (f:TAi) (k:Aw7 DAW (List Int)):uI:=fun d e c=>(b c).bind fun a=>k (.c0 d e 16 a)
def gq (a:Ayz) (b:TAi) (k:Aw7 DAW (List Int)):Aw7 DAW (List Int)
 |.c0 e h d c=>mk (cond (d<64) (cond (Av1 (d - 2) c) ((b (AzV c (d - 2)) 131072 524288 1024 true).bind fun f=>cond (Av1 (d - 7) c) (cond (Av1 (d - 15) c) ((b (AzV c (d - 15)) 128 262144 8 true).bind fun g=>cond (Av1 (d - 16) c) (cond (FC ((c.length+1)*4)) (k (.c0 e h (NM d) (c++[w32 ((w32 ((w32 (f+(AzV c (d - 7))))+g))+(AzV c (d - 16)))]))) none) none) none) none) none) (cond (FC ((0+e.length)*4)) (k (.c1 e h 0 c e)) none))
 |.c1 i e d f c=>mk (cond (d<64) (cond (UAV c) (cond ((Av2 Qa (5:Int)) && (decide (5<(Aw3 c)))) (cond ((Av2 Qa (6:Int)) && (decide (6<(Aw3 c)))) (cond ((Av2 Qa (7:Int)) && (decide (7<(Aw3 c)))) ((b (GZ c QM) 64 2048 33554432 false).bind fun g=>cond (Fb d e) (cond (Fb d f) (cond (AxR c) (cond (XAV (Aw3 c)) (cond (AxR c) (cond (TAV (Aw3 c)) (cond (XAV (Aw3 c)) (cond (TAV (Aw3 c)) (cond (AxR c) ((b (GZ c Qa) 4 8192 4194304 false).bind fun h=>k (.c2 i e d (w32 ((w32 ((w32 ((w32 ((GZ c (7:Int))+g))+(jF (QG AwM (GZ c QM) (GZ c (5:Int))) (QG AwM (w32 (4294967295 - (GZ c QM))) (GZ c (6:Int))))))+(GZ e d)))+(GZ f d))) (w32 (h+(jF (Oi AwM (w32 (QG AwM (GZ c Qa) (GZ c AwX))) (w32 (QG AwM (GZ c Qa) (GZ c (2:Int))))) (QG AwM (GZ c AwX) (GZ c (2:Int)))))) 7 f c)) none) none) none) none) none) none) none) none) none) none) none) none) none) (k (.c3 i 0 c [])))
 |.c2 f g h e i d j c=>mk (cond (AzC d) (cond (Av1 (d - 1) c) (cond (Fb d c) (k (.c2 f g h e i (AyV d) j (c.set (Axd d) (AzV c (d - 1))))) none) none) (cond (UAV c) (cond (UAV c) (cond (AxR (c.set (Axd QM) (w32 ((GZ c QM)+e)))) (k (.c1 f g (NM h) j ((c.set (Axd QM) (w32 ((GZ c QM)+e))).set (Axd Qa) (w32 (e+i))))) none) none) none))
 |.c3 d c e f=>mk (cond (c<8) (cond (Fb c d) (cond (Fb c e) (cond (FC ((f.length+1)*4)) (k (.c3 d (NM c) e (f++[w32 ((GZ d c)+(GZ e c))]))) none) none) none) (Md f))
def Tv:AzH DAW (List Int)
 |0,_=>none
 |m+1,s=>gq Xp Awv (Tv m) s
def gu:uI:=ZAw Xp Awv (Tv AY)
def GBG:Avb:=fy u3 gu AfS cv9 [XAw,RBV] Tryz.func179 SBV gq ZAw Tv
inductive EAW where
 |c0 (a b:AA) (d:Int) (e f:IW) (g h:(List Int))
def TBV:EAW->Avm
 |.c0 d e f a b g h=>(tdo Tryz.f125 4064,[vs 1 d,vp 2 128,vp 4 256,vo 5 368,vo 6 432,vs 7 e,vi 8 f],[(128,.var [.str a.F7,.str a.Np,li a.fCount]),(256,.var [.str b.F7,.str b.Np,li b.fCount]),(368,.sl 108 g),(432,.sl 108 h)])
def AQv (f:uH) (g:Ayz) (h:Azb) (i:uI) (j:Avk) (k:Aw7 EAW IW):EAv:=fun a b=>mk ((f a).bind fun c=>cond (!c) (some a) (cond ((AxZ a.fCount (Awq b)) > 1000000000) (some a) ((g a.F7).bind fun d=>h.bind fun e=>cond (LZ a.Np b) (k (.c0 b (a.Np++b) 0 a ⟨Awp,Awp,0⟩ d e)) none)))
def CAk (a:uH) (b:Ayz) (c:Azb) (d:uI) (e:Avk) (k:Aw7 EAW IW):Aw7 EAW IW
 |.c0 l g f m o i j=>mk (cond (Av2 (Ayv (f+64)) (Awq g)) (cond (Om f (Ayv (f+64)) (Awq g)) ((d i j (Vj g f (f+64))).bind fun h=>k (.c0 l g (Ayv (f+64)) m o h j)) none) ((e i).bind fun n=>cond (Hf f (Awq g)) (some ⟨n,QJ g f,AxZ m.fCount (Awq l)⟩) none))
def rP:AzH EAW IW
 |0,_=>none
 |m+1,s=>CAk Xo Xp rO gu gZ (rP m) s
def DAk:EAv:=AQv Xo Xp rO gu gZ (rP AY)
def UBV:Avb:=fy u2 DAk AfT AEj [CBG,XAw,FBG,GBG,TAw] Tryz.func125 TBV CAk AQv rP
inductive FAW where
 |c0 (b:IW) (a:(List Int))
 |c1 (d e:Int) (b:IW) (a:(List Int))
 |c2 (d e:Int) (f g:Int) (b:IW) (a:(List Int))
 |c3 (h:Int) (a i j:(List Int))
def VBV:FAW->Avm
 |.c0 a b=>(tdo Tryz.f124 992,[vp 1 64,vo 3 240],[(64,.var [.str a.F7,.str a.Np,li a.fCount]),(240,.sl 5 b)])
 |.c1 d e a b=>(tdo Tryz.f124 8144,[vp 1 64,vo 3 240,vi 4 d,vi 5 e],[(64,.var [.str a.F7,.str a.Np,li a.fCount]),(240,.sl 5 b)])
 |.c2 d e f g a b=>(tdo Tryz.f124 2085456,[vp 1 64,vo 3 240,vi 4 d,vi 5 e,vi 6 f,vi 7 g],[(64,.var [.str a.F7,.str a.Np,li a.fCount]),(240,.sl 5 b)])
 |.c3 h b i j=>(tdo Tryz.f124 65488,[vo 3 240,vo 8 560,vo 9 624,vi 10 h],[(240,.sl 5 b),(560,.sl 108 i),(624,.sl 108 j)])
def BAx (c:uH) (d:Ayz) (e:Azb) (f:uI) (g:Avk) (k:Aw7 FAW AA):FAv:=fun a=>mk ((c a).bind fun b=>cond (!b) AzP (cond (Q5 a.Np) (cond (OW (AzB a.Np)) (k (.c0 a ((AzB a.Np)++[(128:Int)]))) none) none))
def WC (a:uH) (b:Ayz) (c:Azb) (d:uI) (e:Avk) (k:Aw7 FAW AA):Aw7 FAW AA
 |.c0 g f=>mk (cond (((Aw3 f).tmod 64) != 56) (cond (OW f) (k (.c0 g (f++[Qa]))) none) (k (.c1 (Ayv (8*g.fCount)) 7 g f)))
 |.c1 g f h i=>mk (cond (Jw f) (k (.c2 g f g 0 h i)) ((b h.F7).bind fun j=>c.bind fun l=>k (.c3 0 i j l)))
 |.c2 i f j h l g=>mk (cond (KZ h f) (k (.c2 i f (Ayv (j.tdiv 256)) (NM h) l g)) (cond (OW g) (k (.c1 i (AyV f) l (g++[w8 (j.tmod 256)]))) none))
 |.c3 f g i j=>mk (cond (KZ f (Aw3 g)) (cond (Om f (Ayv (f+64)) (Aw3 g)) ((d i j (ofBytes ((g.drop (Axd f)).take ((Ic (f+64)) - (Axd f))))).bind fun h=>k (.c3 (Ayv (f+64)) g h j)) none) (Ax9 (e i)))
def AwP:AzH FAW AA
 |0,_=>none
 |m+1,s=>WC Xo Xp rO gu gZ (AwP m) s
def EAk:FAv:=BAx Xo Xp rO gu gZ (AwP AY)
def WBV:Avb:=fy u1 EAk AEj Cc [CBG,XAw,FBG,GBG,TAw] Tryz.func124 VBV WC BAx AwP
def CAx (c:CAv) (d:EAv) (f:FAv):AwT:=fun e=>mk (c.bind fun a=>(d a e).bind fun b=>Ax9 (f b))
def Jt:AwT:=CAx UAw DAk EAk
def Ayr:Avb:=BI u1 Jt Cc Cc [NBV,UBV,WBV] Tryz.func73 CAx
def DAx (c:AwT) (d:Zr):Avp:=mk ((c Awp).bind fun a=>(d 32 0).bind fun b=>some ⟨a,0,[],0,b,0⟩)
def Axn:Avp:=DAx Jt gV
def iZ:Avb:=BI u0 Axn Yc AEk [Ayr,WBF] Tryz.func50 DAx
inductive GAW where
 |c0 (a:Int) (b:(List Int))
def XBV:GAW->Avm
 |.c0 a b=>(tdo Tryz.f148 224,[vi 0 a,vo 3 240],[(240,.sl 5 b)])
def HBG (k:Aw7 GAW AA):AzI:=fun a=>k (.c0 a [])
def FAk (k:Aw7 GAW AA):Aw7 GAW AA
 |.c0 a b=>mk (cond (a > 127) (cond (OW b) (k (.c0 (Ayv (a.tdiv 128)) (b++[w8 (Ayv ((a.tmod 128)+128))]))) none) (AxL (OW b) (AxU (b++[w8 a]))))
def rQ:AzH GAW AA
 |0,_=>none
 |m+1,s=>FAk (rQ m) s
def SC:AzI:=HBG (rQ AY)
def aW:Avb:=fy u1 SC FN Cc [] Tryz.func148 XBV FAk HBG rQ
def EAx (b:Va):AwZ:=fun a=>mk ((b a.fId 1 1000).bind fun c=>Axg (!c) (some false) ((b (Nb a) 1 3).bind fun d=>Axg (!d) (some false) ((b a.fNext 0 16).bind fun e=>Axg (!e) (some false) (Axg ((Nb a) != 2) (Axg (a.fNext != 0) (some false) (Axg (GU a) (some false) (Axg ((Nb a) != 1) (Axg (AwY a) (some false) (OAV a)) (OAV a)))) (Axg ((Nb a) != 1) (Axg (AwY a) (some false) (OAV a)) (OAV a))))))
def Xq:AwZ:=EAx AzN
def HAW:Avb:=BI u1 Xq S9 E8 [AzY] Tryz.func135 EAx
def IBG:GAv:=fun a b=>cond a (some b) (some 0)
def FAx:GAv:=IBG
def YBV:Avb:=BI u2 FAx AfU FN [] Tryz.func214 IBG
def GAx:AzI:=fun a=>mk (cond (Ayn (a.tmod 256)) (AxU [w8 (Ayv ((a.tmod 256)+256))]) (AxU [w8 (a.tmod 256)]))
def Awm:AzI:=GAx
def YL:Avb:=BI u1 Awm FN Cc [] Tryz.func215 GAx
def HAx (c:AzI):AwT:=fun b=>mk ((c (Awq b)).bind fun a=>AxL (LZ a b) (some (a++b)))
def GAk:AwT:=HAx SC
def ZBV:Avb:=BI u1 GAk Cc Cc [aW] Tryz.func216 HAx
def IAx (p:AwZ) (e:GAv) (n o:AzI) (q:AwT):Td:=fun a=>mk ((p a).bind fun h=>cond (!h) (MZ (Awp,false)) ((e (AzT a) 1).bind fun i=>(e (Awk a) 2).bind fun j=>(e (GU a) 4).bind fun l=>(e (AwY a) 8).bind fun m=>(n a.fId).bind fun b=>(o (Nb a)).bind fun c=>FK (LZ b c) ((o (AxZ (AxZ (AxZ i j) l) m)).bind fun d=>FK (Awg b c d) ((q (Oc a)).bind fun f=>FK (Awg (b++c) d f) ((n a.fNext).bind fun g=>FK (Awg ((b++c)++d) f g) (MZ ((((b++c)++d)++f)++g,true)))))))
def Zb:Td:=IAx Xq FAx SC Awm GAk
def HAk:Avb:=BI u1 Zb S9 IQ [HAW,YBV,aW,YL,ZBV] Tryz.func149 IAx
def JAx (f:Va) (g:AzI) (i:Td):Tf:=fun a=>mk (cond (a.Aj == 1) (cond (U2 a.fText) (cond (Ayy a.DR) (cond ((Ayy (Awt a).fId) && ((Ayy (Nb (Awt a))) && (((AzT (Awt a)) == false) && (((Awk (Awt a)) == false) && (((GU (Awt a)) == false) && (((AwY (Awt a)) == false) && ((jK a) && ((Ayy (Awt a).fNext) && true)))))))) (FK (LZ (Ax6 ⟨#[1]⟩) a.fText) (MZ ((Ax6 ⟨#[1]⟩)++a.fText,true))) (MZ (Awp,false))) (MZ (Awp,false))) (MZ (Awp,false))) (cond (a.Aj == 2) (cond (Aww a.fText Awp) (cond ((Ayy (Awt a).fId) && ((Ayy (Nb (Awt a))) && (((AzT (Awt a)) == false) && (((Awk (Awt a)) == false) && (((GU (Awt a)) == false) && (((AwY (Awt a)) == false) && ((jK a) && ((Ayy (Awt a).fNext) && true)))))))) ((f a.DR 0 3).bind fun e=>cond e ((g a.DR).bind fun c=>FK (LZ (Ax6 ⟨#[2]⟩) c) (MZ ((Ax6 ⟨#[2]⟩)++c,true))) (MZ (Awp,false))) (MZ (Awp,false))) (MZ (Awp,false))) (cond (a.Aj == 3) ((i (Awt a)).bind fun b=>cond b.2 (cond (Aww a.fText Awp) (cond (Ayy a.DR) (FK (LZ (Ax6 ⟨#[3]⟩) b.1) (MZ ((Ax6 ⟨#[3]⟩)++b.1,true))) (MZ (Awp,false))) (MZ (Awp,false))) (MZ (Awp,false))) (cond (a.Aj == 4) (cond (Aww a.fText Awp) (cond ((Ayy (Awt a).fId) && ((Ayy (Nb (Awt a))) && (((AzT (Awt a)) == false) && (((Awk (Awt a)) == false) && (((GU (Awt a)) == false) && (((AwY (Awt a)) == false) && ((jK a) && ((Ayy (Awt a).fNext) && true)))))))) ((f a.DR 1 1000).bind fun h=>cond h ((g a.DR).bind fun d=>FK (LZ (Ax6 ⟨#[4]⟩) d) (MZ ((Ax6 ⟨#[4]⟩)++d,true))) (MZ (Awp,false))) (MZ (Awp,false))) (MZ (Awp,false))) (MZ (Awp,false))))))
def iE:Tf:=JAx AzN SC Zb
def KAx:Avb:=BI u1 iE AVD IQ [AzY,aW,HAk] Tryz.func100 JAx
inductive IAW where
 |c0 (a:Int) (b:Bo)
def AnV:IAW->Avm
 |.c0 b a=>(tdo Tryz.f86 464,[vp 1 64,vi 3 b],[(64,.var [.str a.Bv,li a.DU,.BG 76 a.AZ,li a.BM,.str a.Dh,li a.fCount])])
def LAx (b:Va) (f:AwZ) (k:Aw7 IAW Bool):AyW:=fun a=>mk (cond ((Awq a.Bv) != 32) (some false) (cond ((Awq (Tc a)) != 32) (some false) ((b (Ax5 a) 0 3).bind fun c=>cond (!c) (some false) (cond ((ND a) > 8) (some false) ((b a.BM 0 1000).bind fun d=>cond (!d) (some false) ((b a.fCount 0 10000).bind fun e=>cond (!e) (some false) (k (.c0 0 a))))))))
def IAk (a:Va) (b:AwZ) (k:Aw7 IAW Bool):Aw7 IAW Bool
 |.c0 c d=>mk (cond (Av9 c (Aw5 d)) (cond (Fa c (Aw5 d)) ((b (Eb (Awf d) c ⟨0,0,false,false,false,false,Awp,0⟩)).bind fun e=>cond (!e) (some false) (cond (Fa c (Aw5 d)) (cond (Ayt (Eb (Awf d) c ⟨0,0,false,false,false,false,Awp,0⟩).fId d.BM) (some false) (cond (AzC c) (cond (Ayf (AyV c) (ND d)) (cond (Fa c (Aw5 d)) (cond (Avi (Eb (Awf d) (AyV c) ⟨0,0,false,false,false,false,Awp,0⟩).fId (Eb (Awf d) c ⟨0,0,false,false,false,false,Awp,0⟩).fId) (some false) (k (.c0 (NM c) d))) none) none) (k (.c0 (NM c) d)))) none)) none) (some true))
def Zc:AzH IAW Bool
 |0,_=>none
 |m+1,s=>IAk AzN Xq (Zc m) s
def iG:AyW:=LAx AzN Xq (Zc AY)
def JBG:Avb:=fy u1 iG AEl E8 [AzY,HAW] Tryz.func86 AnV IAk LAx Zc
def MAx:SK:=fun a=>mk (cond (FC ((0+(Aw5 a))*48)) (some ⟨a.Bv,Ax5 a,Awf a,a.BM,Tc a,a.fCount⟩) none)
def Zd:SK:=MAx
def NAx:Avb:=BI u1 Zd AEl AEk [] Tryz.func79 MAx
inductive JAW where
 |c0 (a b:Int) (d:Bo) (e:Af)
def BBW:JAW->Avm
 |.c0 d e b a=>(tdo Tryz.f56 208,[vi 1 d,vp 2 128,vp 4 256,vi 6 e],[(128,.var [.str b.Bv,li b.DU,.BG 76 b.AZ,li b.BM,.str b.Dh,li b.fCount]),(256,.var [li a.fId,li a.Aj,.bool a.CY,.bool a.CX,.bool a.Gw,.bool a.GH,.str a.fValue,li a.fNext])])
def KBG (k:Aw7 JAW (Af×Bool)):Qk:=fun b a=>mk (k (.c0 a 0 b ⟨0,0,false,false,false,false,Awp,0⟩))
def JAk (k:Aw7 JAW (Af×Bool)):Aw7 JAW (Af×Bool)
 |.c0 c a b d=>mk (cond (Av9 a (Aw5 b)) (cond (Fa a (Aw5 b)) (cond ((Eb (Awf b) a ⟨0,0,false,false,false,false,Awp,0⟩).fId == c) (cond (Fa a (Aw5 b)) (some (Eb (Awf b) a ⟨0,0,false,false,false,false,Awp,0⟩,true)) none) (k (.c0 c (NM a) b d))) none) (some (⟨0,0,false,false,false,false,Awp,0⟩,false)))
def iH:AzH JAW (Af×Bool)
 |0,_=>none
 |m+1,s=>JAk (iH m) s
def TU:Qk:=KBG (iH AY)
def uG:Avb:=fy u2 TU AKo Yb [] Tryz.func56 BBW JAk KBG iH
def OAx:ig:=fun a b=>mk (Axg ((Nb a) == (Nb b)) (Axg (Aww (Oc a) (Oc b)) (Axg ((GU a) == (GU b)) (Axg ((AwY a) == (AwY b)) (Axg (Av2 a.fNext b.fNext) (Axg (AzT b) (Axg (Awk b) (some true) (some (!(Awk a)))) (Axg (!(AzT a)) (Axg (Awk b) (some true) (some (!(Awk a)))) (some false))) (some false)) (some false)) (some false)) (some false)) (some false))
def KAW:ig:=OAx
def CBW:Avb:=BI u2 KAW AVE E8 [] Tryz.func101 OAx
inductive MAW where
 |c0 (a:(List Af)) (e:Int) (b:Af) (d:(List Af))
 |c1 (a:(List Af)) (f:Int) (b:Af) (d:(List Af))
def DBW:MAW->Avm
 |.c0 b e a d=>(tdo Tryz.f102 464,[vr 0 76 b,vp 3 192,vo 5 368,vi 6 e],[(192,.var [li a.fId,li a.Aj,.bool a.CY,.bool a.CX,.bool a.Gw,.bool a.GH,.str a.fValue,li a.fNext]),(368,.sl 76 d)])
 |.c1 b f a d=>(tdo Tryz.f102 2000,[vr 0 76 b,vp 3 192,vo 5 368,vi 7 f],[(192,.var [li a.fId,li a.Aj,.bool a.CY,.bool a.CX,.bool a.Gw,.bool a.GH,.str a.fValue,li a.fNext]),(368,.sl 76 d)])
def PAx (k:Aw7 MAW (List Af)):UAi:=fun a b=>k (.c0 a 0 b [])
def rV (k:Aw7 MAW (List Af)):Aw7 MAW (List Af)
 |.c0 a b c d=>mk (cond (Av9 b a.length) (cond (Fa b a.length) (cond (KZ (Eb a b ⟨0,0,false,false,false,false,Awp,0⟩).fId c.fId) (cond (Fa b a.length) (cond (FC ((d.length+1)*48)) (k (.c0 a (NM b) c (d++[Eb a b ⟨0,0,false,false,false,false,Awp,0⟩]))) none) none) (k (.c0 a (NM b) c d))) none) (cond (FC ((d.length+1)*48)) (k (.c1 a 0 c (d++[c]))) none))
 |.c1 b a d c=>mk (cond (Av9 a b.length) (cond (Fa a b.length) (cond (Ayt (Eb b a ⟨0,0,false,false,false,false,Awp,0⟩).fId d.fId) (cond (Fa a b.length) (cond (FC ((c.length+1)*48)) (k (.c1 b (NM a) d (c++[Eb b a ⟨0,0,false,false,false,false,Awp,0⟩]))) none) none) (k (.c1 b (NM a) d c))) none) (some c))
def WG:AzH MAW (List Af)
 |0,_=>none
 |m+1,s=>rV (WG m) s
def NAW:UAi:=PAx (WG AY)
def EBW:Avb:=fy u2 NAW AfV AfW [] Tryz.func102 DBW rV PAx WG
inductive OAW where
 |c0 (a:AA) (b:Int) (d:Bo) (e:Ah) (f:AA) (g h:Int) (i:AA) (j:Int) (l:AA) (n o:Int) (p:AA) (q:Int) (t u v:(List Af))
def FBW:OAW->Avm
 |.c0 d e b a f g h i j l n o p q t u v=>(tdo Tryz.f55 32898512,[vp 2 128,vp 3 192,vp 4 256,vs 6 d,vp 8 512,vo 13 880,vi 14 e],[(128,.var [.str b.Bv,li b.DU,.BG 76 b.AZ,li b.BM,.str b.Dh,li b.fCount]),(192,.var [li a.Aj,.str a.fText,li a.DR,li a.Ag.fId,li a.Ag.Aj,.bool a.Ag.CY,.bool a.Ag.CX,.bool a.Ag.Gw,.bool a.Ag.GH,.str a.Ag.fValue,li a.Ag.fNext]),(256,.var [.str f,li g,.own 1016386,li h,.str i,li j]),(512,.var [.str l,li n,.own 1032770,li o,.str p,li q]),(880,.sl 76 t),(1016386,.sl 76 u),(1032770,.sl 76 v)])
def QAx (S:Tf) (e:AyW) (T:SK) (F:Qk) (U:ig) (h:UAi) (f:AwT) (k:Aw7 OAW (Bo×Bool)):AxE:=fun a c=>mk ((S c).bind fun d=>(e a).bind fun C=>cond (!C) (some (Mc,false)) (cond (!d.2) (some (Mc,false)) (cond (a.fCount == 10000) (some (Mc,false)) ((T a).bind fun b=>cond (c.Aj == 1) (cond (Axa a d) ((f ((Tc a)++d.1)).bind fun i=>(e ⟨c.fText,0,Awf b,b.BM,i,PI a⟩).bind fun D=>Aws D (Mc,false) (⟨c.fText,0,Awf b,b.BM,i,PI a⟩,true)) none) (cond (c.Aj == 2) (cond (Axa a d) ((f ((Tc a)++d.1)).bind fun j=>(e ⟨b.Bv,c.DR,Awf b,b.BM,j,PI a⟩).bind fun E=>Aws E (Mc,false) (⟨b.Bv,c.DR,Awf b,b.BM,j,PI a⟩,true)) none) (cond (c.Aj == 3) ((F a (Awt c).fId).bind fun g=>cond g.2 ((U g.1 (Awt c)).bind fun G=>cond (!G) (some (Mc,false)) (cond (!g.2) (cond ((Awt c).fId != (NM a.BM)) (some (Mc,false)) (cond ((ND a) == 8) (some (Mc,false)) (cond (!g.2) ((h (Awf a) (Awt c)).bind fun l=>cond (Axa a d) ((f ((Tc a)++d.1)).bind fun m=>(e (YF b l c m a)).bind fun H=>Aws H (Mc,false) (YF b l c m a,true)) none) ((h (Awf a) (Awt c)).bind fun n=>cond (Axa a d) ((f ((Tc a)++d.1)).bind fun o=>(e (YD b n o a)).bind fun I=>Aws I (Mc,false) (YD b n o a,true)) none)))) (cond (!g.2) ((h (Awf a) (Awt c)).bind fun p=>cond (Axa a d) ((f ((Tc a)++d.1)).bind fun q=>(e (YF b p c q a)).bind fun J=>Aws J (Mc,false) (YF b p c q a,true)) none) ((h (Awf a) (Awt c)).bind fun r=>cond (Axa a d) ((f ((Tc a)++d.1)).bind fun s=>(e (YD b r s a)).bind fun L=>Aws L (Mc,false) (YD b r s a,true)) none)))) (cond (!g.2) (cond ((Awt c).fId != (NM a.BM)) (some (Mc,false)) (cond ((ND a) == 8) (some (Mc,false)) (cond (!g.2) ((h (Awf a) (Awt c)).bind fun t=>cond (Axa a d) ((f ((Tc a)++d.1)).bind fun u=>(e (YF b t c u a)).bind fun M=>Aws M (Mc,false) (YF b t c u a,true)) none) ((h (Awf a) (Awt c)).bind fun v=>cond (Axa a d) ((f ((Tc a)++d.1)).bind fun w=>(e (YD b v w a)).bind fun N=>Aws N (Mc,false) (YD b v w a,true)) none)))) (cond (!g.2) ((h (Awf a) (Awt c)).bind fun x=>cond (Axa a d) ((f ((Tc a)++d.1)).bind fun y=>(e (YF b x c y a)).bind fun O=>Aws O (Mc,false) (YF b x c y a,true)) none) ((h (Awf a) (Awt c)).bind fun z=>cond (Axa a d) ((f ((Tc a)++d.1)).bind fun A=>(e (YD b z A a)).bind fun P=>Aws P (Mc,false) (YD b z A a,true)) none)))) (cond (c.Aj == 4) ((F a c.DR).bind fun Q=>cond (!Q.2) (some (Mc,false)) (k (.c0 d.1 0 a c Awp 0 0 Awp 0 b.Bv (Ax5 b) b.BM (Tc b) b.fCount [] [] (Awf b)))) (cond (Axa a d) ((f ((Tc a)++d.1)).bind fun B=>(e ⟨b.Bv,Ax5 b,Awf b,b.BM,B,PI a⟩).bind fun R=>Aws R (Mc,false) (⟨b.Bv,Ax5 b,Awf b,b.BM,B,PI a⟩,true)) none))))))))
def KAk (a:Tf) (b:AyW) (c:SK) (d:Qk) (e:ig) (f:UAi) (g:AwT) (k:Aw7 OAW (Bo×Bool)):Aw7 OAW (Bo×Bool)
 |.c0 l i h p r s t u v m n o w x j y z=>mk (cond (Av9 i (Aw5 h)) (cond (Fa i (Aw5 h)) (cond ((Eb (Awf h) i ⟨0,0,false,false,false,false,Awp,0⟩).fId != p.DR) (cond (Fa i (Aw5 h)) (cond (FC ((j.length+1)*48)) (k (.c0 l (NM i) h p r s t u v m n o w x (j++[Eb (Awf h) i ⟨0,0,false,false,false,false,Awp,0⟩]) y z)) none) none) (k (.c0 l (NM i) h p r s t u v m n o w x j y z))) none) (cond (LZ (Tc h) l) ((g ((Tc h)++l)).bind fun q=>(b ⟨m,n,j,o,q,PI h⟩).bind fun A=>Aws A (Mc,false) (⟨m,n,j,o,q,PI h⟩,true)) none))
def rW:AzH OAW (Bo×Bool)
 |0,_=>none
 |m+1,s=>KAk iE iG Zd TU KAW NAW Jt (rW m) s
def Rq:AxE:=QAx iE iG Zd TU KAW NAW Jt (rW AY)
def LAk:Avb:=fy u2 Rq AVF AEm [KAx,JBG,NAx,uG,CBW,EBW,Ayr] Tryz.func55 FBW KAk QAx rW
inductive PAW where
 |c0 (a:AA) (b d:Int) (e:(List Int))
def GBW:PAW->Avm
 |.c0 a b d e=>(tdo Tryz.f287 976,[vs 0 a,(1,[.one (.int .u8 b)]),vo 5 368,vi 6 d],[(368,.sl 5 e)])
def RAx (d:AwT) (k:Aw7 PAW AA):WT:=fun a c=>mk (cond ((Awq a) > 64) ((d a).bind fun b=>k (.c0 b c 0 (SV (64:Int)))) (k (.c0 a c 0 (SV (64:Int)))))
def MAk (a:AwT) (k:Aw7 PAW AA):Aw7 PAW AA
 |.c0 d e b c=>mk (cond (b<64) (cond (KZ b (Awq d)) (cond (Ayf b (Awq d)) (cond (Fb b c) (cond (Fb b (c.set (Axd b) (bt d b))) (cond (Fb b (c.set (Axd b) (bt d b))) (k (.c0 d e (NM b) ((c.set (Axd b) (bt d b)).set (Axd b) (w8 (Oi QH (GZ (c.set (Axd b) (bt d b)) b) e))))) none) none) none) none) (cond (Fb b c) (cond (Fb b c) (k (.c0 d e (NM b) (c.set (Axd b) (w8 (Oi QH (GZ c b) e))))) none) none)) (AxU c))
def iI:AzH PAW AA
 |0,_=>none
 |m+1,s=>MAk Jt (iI m) s
def NAk:WT:=RAx Jt (iI AY)
def HBW:Avb:=fy u2 NAk AVG Cc [Ayr] Tryz.func287 GBW MAk RAx iI
def SAx (d:WT) (g:AwT):AxG:=fun e f=>mk ((d e 92).bind fun a=>(d e 54).bind fun b=>AxL (LZ b f) ((g (b++f)).bind fun c=>AxL (LZ a c) (Ax9 (g (a++c)))))
def rX:AxG:=SAx NAk Jt
def LBG:Avb:=BI u2 rX KJ Cc [HBW,Ayr] Tryz.func256 SAx
inductive QAW where
 |c0 (a:AA) (b d e:Int) (f:(List Int))
def IBW:QAW->Avm
 |.c0 a b d e f=>(tdo Tryz.f202 976,[vs 0 a,vi 1 b,vi 2 d,vo 8 560,vi 9 e],[(560,.sl 5 f)])
def TAx (b:Va) (g h:AzI) (i:AxG) (k:Aw7 QAW (AA×Bool)):Zt:=fun f c e=>mk ((b c 0 1000000000).bind fun a=>cond (!a) (MZ (Awp,false)) ((b e 0 8000).bind fun d=>cond (!d) (MZ (Awp,false)) (k (.c0 f c e 0 []))))
def OAk (a:Va) (b c:AzI) (d:AxG) (k:Aw7 QAW (AA×Bool)):Aw7 QAW (AA×Bool)
 |.c0 m j f l e=>mk (cond (KZ (Aw3 e) f) ((b j).bind fun g=>cond (LZ jH g) ((c l).bind fun i=>cond (Awg jH g i) ((d m ((jH++g)++i)).bind fun h=>cond (Q5 h) (cond (vF e h) (k (.c0 m j f (NM l) (e++(AzB h)))) none) none) none) none) (FK (Hf f (Aw3 e)) (MZ (ofBytes ((e.drop 0).take ((Axd f) - 0)),true))))
def rY:AzH QAW (AA×Bool)
 |0,_=>none
 |m+1,s=>OAk AzN SC Awm rX (rY m) s
def RAW:Zt:=TAx AzN SC Awm rX (rY AY)
def MBG:Avb:=fy u3 RAW wR IQ [AzY,aW,YL,LBG] Tryz.func202 IBW OAk TAx rY
inductive SAW where
 |c0 (a:AA) (b:Int) (d:(List Int))
def JBW:SAW->Avm
 |.c0 a b d=>(tdo Tryz.f205 464,[vs 1 a,vo 5 368,vi 6 b],[(368,.sl 5 d)])
def UAx (k:Aw7 SAW AA):AxG:=fun a b=>mk (cond (Q5 a) (k (.c0 b 0 (AzB a))) none)
def PAk (k:Aw7 SAW AA):Aw7 SAW AA
 |.c0 c a b=>mk (cond (KZ a (Aw3 b)) (cond (Fb a b) (cond (Ayf a (Awq c)) (cond (Fb a b) (k (.c0 c (NM a) (b.set (Axd a) (w8 (Oi QH (GZ b a) (bt c a)))))) none) none) none) (AxU b))
def rZ:AzH SAW AA
 |0,_=>none
 |m+1,s=>PAk (rZ m) s
def TAW:AxG:=UAx (rZ AY)
def NBG:Avb:=fy u2 TAW KJ Cc [] Tryz.func205 JBW PAk UAx rZ
def VAx (d:AzI) (f:AxG):Zu:=fun g e c=>mk ((d e).bind fun a=>AxL (LZ QK a) (AxL (Awg QK a c) ((f g ((QK++a)++c)).bind fun b=>AxL ((Av2 Qa (16:Int)) && (decide (16<=(Awq b)))) (some (Ayg b (16:Int))))))
def UAW:Zu:=VAx SC rX
def OBG:Avb:=BI u3 UAW VA Cc [aW,LBG] Tryz.func204 VAx
def WAx (g:Zt) (h:AxG) (i:Zu):Pn:=fun d e f=>mk ((g d e (Awq f)).bind fun b=>cond (!b.2) (MZ (Awp,false)) ((h f b.1).bind fun a=>(i d e a).bind fun c=>FK (LZ a c) (MZ (a++c,true))))
def ru:Pn:=WAx RAW TAW UAW
def PBG:Avb:=BI u3 ru VA IQ [MBG,NBG,OBG] Tryz.func218 WAx
inductive VAW where
 |c0 (a:Int) (b:AA) (d:Int)
 |c1 (a:Int) (b:AA) (d e:Int)
def KBW:VAW->Avm
 |.c0 a b d=>(tdo Tryz.f258 208,[(0,[.one (.int .u32 a)]),vs 1 b,vi 5 d],[])
 |.c1 a b d e=>(tdo Tryz.f258 26928,[(0,[.one (.int .u32 a)]),vs 1 b,vi 5 d,vi 6 e],[])
def XAx (k:Aw7 VAW Int):uJ:=fun a b=>k (.c0 a b 0)
def sD (k:Aw7 VAW Int):Aw7 VAW Int
 |.c0 c b a=>mk (cond (KZ a (Awq b)) (cond (Ayf a (Awq b)) (k (.c1 (Us AwM c (w32 (bt b a))) b a 0)) none) (some c))
 |.c1 a c d b=>mk (cond (b<8) (cond (PK a) (k (.c1 (w32 ((BitVec.toNat ((BitVec.ofInt AwM (w32 (a.tdiv 2))) ^^^ (BitVec.ofInt AwM 3558460437)):Nat):Int)) c d (NM b))) (k (.c1 (w32 (a.tdiv 2)) c d (NM b)))) (k (.c0 a c (NM d))))
def WH:AzH VAW Int
 |0,_=>none
 |m+1,s=>sD (WH m) s
def QAk:uJ:=XAx (WH AY)
def LBW:Avb:=fy u2 QAk AVH UG [] Tryz.func258 KBW sD XAx WH
def YAx (b:uJ):Zv:=fun c=>(b 4294967295 c).bind fun a=>some a
def RAk:Zv:=YAx QAk
def MBW:Avb:=BI u1 RAk Cc UG [LBW] Tryz.func211 YAx
def ZAx:AzI:=fun a=>mk (AxU [w8 (WZ a (24:Int)),w8 (WZ a (16:Int)),w8 (WZ a (8:Int)),w8 a])
def SAk:AzI:=ZAx
def NBW:Avb:=BI u1 SAk UG Cc [] Tryz.func210 ZAx
def ART (f:Va) (g:AzI) (h:Zv) (i:AzI):Ti:=fun a=>mk ((f (Awq a) 1 9000).bind fun d=>cond (!d) (MZ (Awp,false)) ((g (Awq a)).bind fun b=>(h a).bind fun e=>(i e).bind fun c=>FK (LZ b c) (FK (Awg b c a) (MZ ((b++c)++a,true)))))
def Ze:Ti:=ART AzN SC RAk SAk
def BAy:Avb:=BI u1 Ze Cc IQ [AzY,aW,MBW,NBW] Tryz.func143 ART
def CAy (f:Tf) (h:Va) (i:Pn) (l:Ti):Xy:=fun j c g=>mk ((f g).bind fun a=>cond (!a.2) (some ([],false)) ((h c 0 10000).bind fun b=>cond (!b) (some ([],false)) ((i j (NM c) a.1).bind fun d=>(l d.1).bind fun e=>some ([⟨1,SI,e.1,Awp⟩,⟨2,SI,Awp,Awp⟩],true))))
def sF:Xy:=CAy iE AzN ru Ze
def QBG:Avb:=BI u3 sF AVI AVJ [KAx,AzY,PBG,BAy] Tryz.func175 CAy
def DAy (a:Va):ZAU:=fun b=>mk (O8 (a (Awq b) 1 8))
def sG:ZAU:=DAy AzN
def RBG:Avb:=BI u1 sG Cc E8 [AzY] Tryz.func134 DAy
inductive WAW where
 |c0 (a:Int) (b:BU)
def OBW:WAW->Avm
 |.c0 a b=>(tdo Tryz.f85 464,[vp 1 64,vi 3 a],[(64,.var [.BG 90 b.Ak])])
def EAy (b:ZAU) (c:Va) (k:Aw7 WAW Bool):AyR:=fun a=>mk (cond ((Awa a:Int) > 30) (some false) (k (.c0 0 a)))
def TAk (a:ZAU) (b:Va) (k:Aw7 WAW Bool):Aw7 WAW Bool
 |.c0 c d=>mk (cond (Av9 c (Awa d)) (cond (Qm c d) ((a (Sl d c).fName).bind fun e=>cond (!e) (some false) (cond ((Aym d c) > 20000) (some false) ((b (Awi d c) 0 (Aym d c)).bind fun f=>cond (!f) (some false) (cond (AzC c) (cond (Ayf (AyV c) (Awa d:Int)) (cond (!(uz (Qi d.Ak (AyV c)) (Sl d c))) (some false) (k (.c0 (NM c) d))) none) (k (.c0 (NM c) d)))))) none) (some true))
def sH:AzH WAW Bool
 |0,_=>none
 |m+1,s=>TAk sG AzN (sH m) s
def Xr:AyR:=EAy sG AzN (sH AY)
def UAk:Avb:=fy u1 Xr AKp E8 [RBG,AzY] Tryz.func85 OBW TAk EAy sH
inductive XAW where
 |c0 (a:AA) (b:Int) (d:BU)
def PBW:XAW->Avm
 |.c0 a b d=>(tdo Tryz.f96 208,[vs 1 a,vp 2 128,vi 5 b],[(128,.var [.BG 90 d.Ak])])
def FAy (k:Aw7 XAW Int):Avo:=fun b a=>k (.c0 a 0 b)
def VAk (k:Aw7 XAW Int):Aw7 XAW Int
 |.c0 c a b=>mk (cond (Av9 a (Awa b)) (cond (Qm a b) (cond (Aww (Sl b a).fName c) (some a) (k (.c0 c (NM a) b))) none) U4)
def sK:AzH XAW Int
 |0,_=>none
 |m+1,s=>VAk (sK m) s
def sJ:Avo:=FAy (sK AY)
def GAy:Avb:=fy u2 sJ wS FN [] Tryz.func96 PBW VAk FAy sK
inductive YAW where
 |c0 (f:Int) (a:BU) (b:BQ) (d e:(List BQ))
 |c1 (g:Int) (a:BU) (b:BQ) (d e:(List BQ))
def QBW:YAW->Avm
 |.c0 f b a d e=>(tdo Tryz.f251 464,[vp 2 128,vp 3 192,vp 4 256,vp 5 320,vi 6 f],[(128,.var [.BG 90 b.Ak]),(192,.var [.str a.fName,.str a.fText,li a.J3]),(256,.var [.own 1016384]),(320,.var [.own 1020480]),(1016384,.sl 90 d),(1020480,.sl 90 e)])
 |.c1 g b a d e=>(tdo Tryz.f251 2000,[vp 2 128,vp 3 192,vp 4 256,vp 5 320,vi 7 g],[(128,.var [.BG 90 b.Ak]),(192,.var [.str a.fName,.str a.fText,li a.J3]),(256,.var [.own 1016384]),(320,.var [.own 1020480]),(1016384,.sl 90 d),(1020480,.sl 90 e)])
def HAy (k:Aw7 YAW BU):uK:=fun a b=>k (.c0 0 a b [] [])
def sN (k:Aw7 YAW BU):Aw7 YAW BU
 |.c0 b a c e d=>mk (cond (Av9 b (Awa a)) (cond (Qm b a) (cond (uz (Sl a b) c) (cond (Qm b a) (cond (Vz d) (k (.c0 (NM b) a c e (d++[Sl a b]))) none) none) (k (.c0 (NM b) a c e d))) none) (cond (Vz d) (k (.c1 0 a c e (d++[c]))) none))
 |.c1 a b c e d=>mk (cond (Av9 a (Awa b)) (cond (Qm a b) (cond (!((uz (Sl b a) c) || (Aww (Sl b a).fName c.fName))) (cond (Qm a b) (cond (Vz d) (k (.c1 (NM a) b c e (d++[Sl b a]))) none) none) (k (.c1 (NM a) b c e d))) none) (some ⟨d⟩))
def WI:AzH YAW BU
 |0,_=>none
 |m+1,s=>sN (WI m) s
def WAk:uK:=HAy (WI AY)
def RBW:Avb:=fy u2 WAk AfX jo [] Tryz.func251 QBW sN HAy WI
inductive ZAW where
 |c0 (a:AA) (b:Int) (d:BU) (e f:(List BQ))
def SBW:ZAW->Avm
 |.c0 a b d e f=>(tdo Tryz.f252 464,[vs 1 a,vp 2 128,vp 4 256,vp 5 320,vi 6 b],[(128,.var [.BG 90 d.Ak]),(256,.var [.own 1016384]),(320,.var [.own 1020480]),(1016384,.sl 90 e),(1020480,.sl 90 f)])
def IAy (k:Aw7 ZAW BU):Zw:=fun b a=>k (.c0 a 0 b [] [])
def XAk (k:Aw7 ZAW BU):Aw7 ZAW BU
 |.c0 d a b e c=>mk (cond (Av9 a (Awa b)) (cond (Qm a b) (cond (!(Aww (Sl b a).fName d)) (cond (Qm a b) (cond (Vz c) (k (.c0 d (NM a) b e (c++[Sl b a]))) none) none) (k (.c0 d (NM a) b e c))) none) (some ⟨c⟩))
def sQ:AzH ZAW BU
 |0,_=>none
 |m+1,s=>XAk (sQ m) s
def YAk:Zw:=IAy (sQ AY)
def TBW:Avb:=fy u2 YAk wS jo [] Tryz.func252 SBW XAk IAy sQ
def JAy (c:AyR) (j:ZAU) (l:Avo) (d:uK) (e:Zw):Zx:=fun b a=>mk (O1 (c b) (AyC (IZ,false)) (O1 (j a.fName) (AyC (IZ,false)) (cond (a.Aj != 3) (cond (!(Aww a.I8 Awp)) (AyC (IZ,false)) (cond (a.Aj != 1) (cond (!(Aww a.fText Awp)) (AyC (IZ,false)) ((l b a.fName).bind fun f=>cond (Jw f) (JD (Qm f b) (cond (Ayh a) (JD (LZ (Ul b f) a.fText) ((d b (YA b f a)).bind fun m=>Aza c m (IZ,false) (m,true))) (cond (Ayn f) (AyC (IZ,false)) (cond (Av0 a) ((d b (YB b f)).bind fun n=>Aza c n (IZ,false) (n,true)) (OV a.Aj (KZ (Awi b f) (Aym b f)) (AyC (IZ,false)) (cond (Oq a) (AyC (IZ,false)) (O1 (j a.I8) (AyC (IZ,false)) ((e b a.fName).bind fun T=>(d T (YJ a b f)).bind fun o=>Aza c o (IZ,false) (o,true)))) (Ayj a) ((e b a.fName).bind fun p=>Aza c p (IZ,false) (p,true))))))) (cond (Ayh a) (JD (YH a) ((d b (YC a)).bind fun q=>Aza c q (IZ,false) (q,true))) (cond (Ayn f) (AyC (IZ,false)) (cond (Av0 a) ((d b (YE a)).bind fun r=>Aza c r (IZ,false) (r,true)) (OV a.Aj (Oq a) (AyC (IZ,false)) (O1 (j a.I8) (AyC (IZ,false)) ((e b a.fName).bind fun U=>(d U (YK a)).bind fun s=>Aza c s (IZ,false) (s,true))) (Ayj a) ((e b a.fName).bind fun t=>Aza c t (IZ,false) (t,true)))))))) ((l b a.fName).bind fun g=>cond (Jw g) (JD (Qm g b) (cond (Ayh a) (JD (LZ (Ul b g) a.fText) ((d b (YA b g a)).bind fun u=>Aza c u (IZ,false) (u,true))) (cond (Ayn g) (AyC (IZ,false)) (cond (Av0 a) ((d b (YB b g)).bind fun v=>Aza c v (IZ,false) (v,true)) (OV a.Aj (KZ (Awi b g) (Aym b g)) (AyC (IZ,false)) (cond (Oq a) (AyC (IZ,false)) (O1 (j a.I8) (AyC (IZ,false)) ((e b a.fName).bind fun V=>(d V (YJ a b g)).bind fun w=>Aza c w (IZ,false) (w,true)))) (Ayj a) ((e b a.fName).bind fun x=>Aza c x (IZ,false) (x,true))))))) (cond (Ayh a) (JD (YH a) ((d b (YC a)).bind fun y=>Aza c y (IZ,false) (y,true))) (cond (Ayn g) (AyC (IZ,false)) (cond (Av0 a) ((d b (YE a)).bind fun z=>Aza c z (IZ,false) (z,true)) (OV a.Aj (Oq a) (AyC (IZ,false)) (O1 (j a.I8) (AyC (IZ,false)) ((e b a.fName).bind fun W=>(d W (YK a)).bind fun A=>Aza c A (IZ,false) (A,true))) (Ayj a) ((e b a.fName).bind fun B=>Aza c B (IZ,false) (B,true))))))))) (cond (a.Aj != 1) (cond (!(Aww a.fText Awp)) (AyC (IZ,false)) ((l b a.fName).bind fun h=>cond (Jw h) (JD (Qm h b) (cond (Ayh a) (JD (LZ (Ul b h) a.fText) ((d b (YA b h a)).bind fun C=>Aza c C (IZ,false) (C,true))) (cond (Ayn h) (AyC (IZ,false)) (cond (Av0 a) ((d b (YB b h)).bind fun D=>Aza c D (IZ,false) (D,true)) (OV a.Aj (KZ (Awi b h) (Aym b h)) (AyC (IZ,false)) (cond (Oq a) (AyC (IZ,false)) (O1 (j a.I8) (AyC (IZ,false)) ((e b a.fName).bind fun X=>(d X (YJ a b h)).bind fun E=>Aza c E (IZ,false) (E,true)))) (Ayj a) ((e b a.fName).bind fun F=>Aza c F (IZ,false) (F,true))))))) (cond (Ayh a) (JD (YH a) ((d b (YC a)).bind fun G=>Aza c G (IZ,false) (G,true))) (cond (Ayn h) (AyC (IZ,false)) (cond (Av0 a) ((d b (YE a)).bind fun H=>Aza c H (IZ,false) (H,true)) (OV a.Aj (Oq a) (AyC (IZ,false)) (O1 (j a.I8) (AyC (IZ,false)) ((e b a.fName).bind fun Y=>(d Y (YK a)).bind fun I=>Aza c I (IZ,false) (I,true))) (Ayj a) ((e b a.fName).bind fun J=>Aza c J (IZ,false) (J,true)))))))) ((l b a.fName).bind fun i=>cond (Jw i) (JD (Qm i b) (cond (Ayh a) (JD (LZ (Ul b i) a.fText) ((d b (YA b i a)).bind fun L=>Aza c L (IZ,false) (L,true))) (cond (Ayn i) (AyC (IZ,false)) (cond (Av0 a) ((d b (YB b i)).bind fun M=>Aza c M (IZ,false) (M,true)) (OV a.Aj (KZ (Awi b i) (Aym b i)) (AyC (IZ,false)) (cond (Oq a) (AyC (IZ,false)) (O1 (j a.I8) (AyC (IZ,false)) ((e b a.fName).bind fun Z=>(d Z (YJ a b i)).bind fun N=>Aza c N (IZ,false) (N,true)))) (Ayj a) ((e b a.fName).bind fun O=>Aza c O (IZ,false) (O,true))))))) (cond (Ayh a) (JD (YH a) ((d b (YC a)).bind fun P=>Aza c P (IZ,false) (P,true))) (cond (Ayn i) (AyC (IZ,false)) (cond (Av0 a) ((d b (YE a)).bind fun Q=>Aza c Q (IZ,false) (Q,true)) (OV a.Aj (Oq a) (AyC (IZ,false)) (O1 (j a.I8) (AyC (IZ,false)) ((e b a.fName).bind fun a0=>(d a0 (YK a)).bind fun R=>Aza c R (IZ,false) (R,true))) (Ayj a) ((e b a.fName).bind fun S=>Aza c S (IZ,false) (S,true)))))))))))
def AA3:Zx:=JAy Xr sG sJ WAk YAk
def UBW:Avb:=BI u2 AA3 AVK jq [UAk,RBG,GAy,RBW,TBW] Tryz.func195 JAy
inductive BAX where
 |c0 (a:(List Ef)) (b:Int) (d e:(List BQ))
def VBW:BAX->Avm
 |.c0 a b d e=>(tdo Tryz.f132 464,[vr 1 136 a,vp 4 256,vp 6 384,vi 7 b],[(256,.var [.own 1016384]),(384,.var [.own 1024576]),(1016384,.sl 90 d),(1024576,.sl 90 e)])
def KAy (c:Zx) (k:Aw7 BAX (BU×Int)):WQ:=fun a b=>mk (cond (FC ((0+(Awa a))*40)) (k (.c0 b 0 [] a.Ak)) none)
def ZAk (a:Zx) (k:Aw7 BAX (BU×Int)):Aw7 BAX (BU×Int)
 |.c0 c b f e=>mk (cond (Av9 b c.length) (cond (Fa b c.length) ((a ⟨e⟩ (c.getD (Axd b) (⟨0,Awp,Awp,Awp⟩:Ef))).bind fun d=>cond (!d.2) (some (⟨e⟩,b)) (k (.c0 c (NM b) f d.1.Ak))) none) (some (⟨e⟩,SG c)))
def sU:AzH BAX (BU×Int)
 |0,_=>none
 |m+1,s=>ZAk AA3 (sU m) s
def sS:WQ:=KAy AA3 (sU AY)
def LAy:Avb:=fy u2 sS AVL AVM [UBW] Tryz.func132 VBW ZAk KAy sU
def MAy (c:Xy) (g:WQ):ABi:=fun d h e f=>(c d e f).bind fun a=>(g h a.1).bind fun b=>some b.1
def fB:ABi:=MAy sF sS
def SBG:Avb:=BI u4 fB AfY jo [QBG,LAy] Tryz.func123 MAy
def NAy (g:AwT) (h:Avp) (i:AxE) (j:ABi):iY:=fun a c=>mk (cond ((Awq a) != 32) (some (⟨Awp,false,IZ,Mc,[],[],0⟩,false)) (cond ((Awq c) > 20) (some (⟨Awp,false,IZ,Mc,[],[],0⟩,false)) ((g c).bind fun b=>h.bind fun d=>(i d ⟨1,b,0,⟨0,0,false,false,false,false,Awp,0⟩⟩).bind fun e=>(j a IZ 0 ⟨1,b,0,⟨0,0,false,false,false,false,Awp,0⟩⟩).bind fun f=>some (⟨a,true,f,e.1,[],[],0⟩,true))))
def AIs:iY:=NAy Jt Axn Rq fB
def WBW:Avb:=BI u2 AIs KJ AEn [Ayr,iZ,LAk,SBG] Tryz.func72 NAy
def OAy (d:iY) (f:AwT):uF:=fun e b=>mk ((d e b).bind fun a=>cond (!a.2) (some (⟨⟨Awp,false,IZ,Mc,[],[],0⟩,[],[],[],[]⟩,false)) ((f b).bind fun c=>some (⟨a.1,[],[],[],[⟨1,c,0,⟨0,0,false,false,false,false,Awp,0⟩⟩]⟩,true)))
def fF:uF:=OAy AIs Jt
def TBG:Avb:=BI u2 fF KJ AKq [WBW,Ayr] Tryz.func33 OAy
def PAy (b:AxN):iq:=fun c d=>mk ((b (AzU c) d).bind fun a=>some (Ayy a.1,AzU a.2))
def Axp:iq:=PAy AyT
def QAy:Avb:=BI u2 Axp cv5 AfZ [jO] Tryz.func104 PAy [0]
def RAy (c:AxN):VAi:=fun d b=>mk ((c (AzU d) (Aw3 b)).bind fun a=>cond (Ayf a.1 (Aw3 b)) (some (GZ b a.1,AzU a.2)) none)
def CAX:VAi:=RAy AyT
def XBW:Avb:=BI u2 CAX Afa cv4 [jO] Tryz.func150 RAy [0]
def SAy (c:AxN):BAV:=fun d b=>mk ((c (AzU d) (FD b)).bind fun a=>cond (Ayf a.1 (FD b)) (some (Jf b a.1 Awp,AzU a.2)) none)
def sW:BAV:=SAy AyT
def UBG:Avb:=BI u2 sW Afb AVN [jO] Tryz.func151 SAy [0]
inductive DAX where
 |c0 (a b:Int) (d e:Int) (f:(List Int))
def YBW:DAX->Avm
 |.c0 a b d e f=>(tdo Tryz.f217 976,[vp 0 0,vi 1 a,vo 5 368,vi 6 b],[(0,.var [.J4,li d,li e]),(368,.sl 5 f)])
def TAy (c:YAU) (k:Aw7 DAX (AA×DZ)):HAv:=fun a b=>cond (b > 5000) (k (.c0 5000 0 a.fI a.AyA [])) (k (.c0 b 0 a.fI a.AyA []))
def BAl (a:YAU) (k:Aw7 DAX (AA×DZ)):Aw7 DAX (AA×DZ)
 |.c0 e d f g c=>mk (cond (KZ d e) ((a ⟨(),f,g⟩).bind fun b=>cond (OW c) (k (.c0 e (NM d) b.2.fI b.2.AyA (c++[w8 b.1]))) none) (some (ofBytes c,⟨(),f,g⟩)))
def iJ:AzH DAX (AA×DZ)
 |0,_=>none
 |m+1,s=>BAl rE (iJ m) s
def CAl:HAv:=TAy rE (iJ AY)
def ZBW:Avb:=fy u2 CAl cv5 AVN [VBF] Tryz.func217 YBW BAl TAy iJ [0]
def UAy (e:AxN) (f:iq) (t:HAv) (o:BAV) (q:AwT):WAi:=fun s=>mk ((e (AzU s) 6).bind fun c=>(e (AzU c.2) 3).bind fun a=>(f (AzU a.2) 2).bind fun d=>(f (AzU d.2) 2).bind fun b=>cond ((Ayv (1+a.1)) == 3) ((e (AzU b.2) 9).bind fun g=>(t (AzU g.2) g.1).bind fun h=>some (⟨Ayv (1+c.1),Ayv (1+a.1),d.1,b.1,false,false,h.1,0⟩,AzU h.2)) (cond ((Ayv (1+a.1)) == 2) ((e (AzU b.2) 17).bind fun i=>(f (AzU i.2) 4).bind fun j=>(o (AzU j.2) VAj).bind fun l=>(q l.1).bind fun p=>some (⟨Ayv (1+c.1),Ayv (1+a.1),d.1,b.1,!j.1,false,p,i.1⟩,AzU l.2)) ((f (AzU b.2) 4).bind fun m=>(o (AzU m.2) VAj).bind fun n=>(q n.1).bind fun r=>some (⟨Ayv (1+c.1),Ayv (1+a.1),d.1,b.1,false,!m.1,r,0⟩,AzU n.2))))
def EAX:WAi:=UAy AyT Axp CAl sW Jt
def Anz:Avb:=BI u1 EAX cv3 Afc [jO,QAy,ZBW,UBG,Ayr] Tryz.func152 UAy [0]
def VAy (b:AwT):WU:=fun a=>mk (AxL (LZ vG a.BO) (Ax9 (b (vG++a.BO))))
def fZ:WU:=VAy Jt
def WAy:Avb:=BI u1 fZ RD Cc [Ayr] Tryz.func154 VAy
inductive FAX where
 |c0 (a:AA) (b:(List Int))
def BBX:FAX->Avm
 |.c0 a b=>(tdo Tryz.f153 480,[vs 0 a,vo 6 432],[(432,.sl 5 b)])
def XAy (c:AzI) (e:Pn) (k:Aw7 FAX (AA×Bool)):AxO:=fun d a=>mk (cond ((Awq a) > 400) (MZ (Awp,false)) ((c (Awq a)).bind fun b=>cond (LZ b a) (cond (Q5 (b++a)) (k (.c0 d (AzB (b++a)))) none) none))
def DAl (a:AzI) (b:Pn) (k:Aw7 FAX (AA×Bool)):Aw7 FAX (AA×Bool)
 |.c0 e c=>mk (cond (((Aw3 c).tmod 16) != 0) (cond (OW c) (k (.c0 e (c++[Qa]))) none) ((b e 0 (ofBytes c)).bind fun d=>MZ (d.1,d.2)))
def qW:AzH FAX (AA×Bool)
 |0,_=>none
 |m+1,s=>DAl SC ru (qW m) s
def gB:AxO:=XAy SC ru (qW AY)
def YAy:Avb:=fy u2 gB KJ IQ [aW,PBG] Tryz.func153 BBX DAl XAy qW
inductive GAX where
 |c0 (f:AA) (a b:Int) (g:Ap) (d e:CV)
 |c1 (f:AA) (h a b:Int) (g:Ap) (d e:CV)
 |c2 (f:AA) (a b:Int) (g:Ap) (d e:CV)
 |c3 (a b:Int) (d e:CV)
 |c4 (a b:Int) (d e:CV)
def CBX:GAX->Avm
 |.c0 g e f d a b=>(tdo Tryz.f105 60,[vp 0 0,vs 2 g,vp 4 256,vp 6 384,vp 7 448],[(0,.var [.J4,li e,li f]),(256,.var [.str d.BO,.bool d.CZ,.BG 90 d.Bc.Ak,.str d.AU.Bv,li d.AU.DU,.BG 76 d.AU.AZ,li d.AU.BM,.str d.AU.Dh,li d.AU.fCount,.BG 127 d.BP,.BG 157 d.BD,li d.CW]),(384,.var [li a.Au,li a.EJ,li a.Ag,li a.Aj,.str a.fText,.bool a.CY,.bool a.CX]),(448,.var [li b.Au,li b.EJ,li b.Ag,li b.Aj,.str b.fText,.bool b.CY,.bool b.CX])])
 |.c1 g h e f d a b=>(tdo Tryz.f105 31440,[vp 0 0,vs 2 g,vp 4 256,vp 6 384,vp 7 448,vi 8 h],[(0,.var [.J4,li e,li f]),(256,.var [.str d.BO,.bool d.CZ,.BG 90 d.Bc.Ak,.str d.AU.Bv,li d.AU.DU,.BG 76 d.AU.AZ,li d.AU.BM,.str d.AU.Dh,li d.AU.fCount,.BG 127 d.BP,.BG 157 d.BD,li d.CW]),(384,.var [li a.Au,li a.EJ,li a.Ag,li a.Aj,.str a.fText,.bool a.CY,.bool a.CX]),(448,.var [li b.Au,li b.EJ,li b.Ag,li b.Aj,.str b.fText,.bool b.CY,.bool b.CX])])
 |.c2 g e f d a b=>(tdo Tryz.f105 124,[vp 0 0,vs 2 g,vp 4 256,vp 6 384,vp 7 448],[(0,.var [.J4,li e,li f]),(256,.var [.str d.BO,.bool d.CZ,.BG 90 d.Bc.Ak,.str d.AU.Bv,li d.AU.DU,.BG 76 d.AU.AZ,li d.AU.BM,.str d.AU.Dh,li d.AU.fCount,.BG 127 d.BP,.BG 157 d.BD,li d.CW]),(384,.var [li a.Au,li a.EJ,li a.Ag,li a.Aj,.str a.fText,.bool a.CY,.bool a.CX]),(448,.var [li b.Au,li b.EJ,li b.Ag,li b.Aj,.str b.fText,.bool b.CY,.bool b.CX])])
 |.c3 e f a b=>(tdo Tryz.f105 252,[vp 0 0,vp 6 384,vp 7 448],[(0,.var [.J4,li e,li f]),(384,.var [li a.Au,li a.EJ,li a.Ag,li a.Aj,.str a.fText,.bool a.CY,.bool a.CX]),(448,.var [li b.Au,li b.EJ,li b.Ag,li b.Aj,.str b.fText,.bool b.CY,.bool b.CX])])
 |.c4 e f a b=>(tdo Tryz.f105 508,[vp 0 0,vp 6 384,vp 7 448],[(0,.var [.J4,li e,li f]),(384,.var [li a.Au,li a.EJ,li a.Ag,li a.Aj,.str a.fText,.bool a.CY,.bool a.CX]),(448,.var [li b.Au,li b.EJ,li b.Ag,li b.Aj,.str b.fText,.bool b.CY,.bool b.CX])])
def ZAy (f:VAi) (h:AxN) (i:iq) (j:BAV) (l:WAi) (m:Td) (n:WU) (o:AxO) (k:Aw7 GAX (CV×DZ)):IAv:=fun g a e=>mk ((f (AzU g) [1,2,2,3,4,4,4,5,5,5,6,7,8,9,10,11,12,13]).bind fun c=>cond (Ayy (Me a:Int)) (k (.c0 e c.2.fI c.2.AyA a ⟨0,0,0,0,Awp,false,false⟩ ⟨1,0,0,0,Awp,false,false⟩)) ((h (AzU c.2) (Me a:Int)).bind fun b=>cond (Ayf b.1 (Me a:Int)) (cond (WR Qa (Me a:Int)) (cond (!(Vl (Qd a) Qa ⟨0,false⟩).QW) ((i (AzU b.2) 4).bind fun d=>cond (!d.1) (cond (WR Qa (Me a:Int)) (k (.c0 e d.2.fI d.2.AyA a ⟨0,0,0,0,Awp,false,false⟩ ⟨2,(Vl (Qd a) Qa ⟨0,false⟩).fId,0,0,Awp,false,false⟩)) none) (k (.c0 e d.2.fI d.2.AyA a ⟨0,0,0,0,Awp,false,false⟩ ⟨c.1,(Vl (Qd a) b.1 ⟨0,false⟩).fId,0,0,Awp,false,false⟩))) (k (.c0 e b.2.fI b.2.AyA a ⟨0,0,0,0,Awp,false,false⟩ ⟨c.1,(Vl (Qd a) b.1 ⟨0,false⟩).fId,0,0,Awp,false,false⟩))) none) none))
def Yu (a:VAi) (b:AxN) (c:iq) (d:BAV) (e:WAi) (f:Td) (g:WU) (h:AxO) (k:Aw7 GAX (CV×DZ)):Aw7 GAX (CV×DZ)
 |.c0 m o p j n i=>mk (cond (AzC (ND (La j))) ((b ⟨(),o,p⟩ (ND (La j))).bind fun l=>cond (Ayf l.1 (ND (La j))) (cond (i.Au == 5) (k (.c1 m 0 l.2.fI l.2.AyA j n ⟨i.Au,Ay1 i,(Eb (Awf (La j)) l.1 ⟨0,0,false,false,false,false,Awp,0⟩).fId,i.Aj,i.fText,i.CY,i.CX⟩)) (k (.c2 m l.2.fI l.2.AyA j n ⟨i.Au,Ay1 i,(Eb (Awf (La j)) l.1 ⟨0,0,false,false,false,false,Awp,0⟩).fId,i.Aj,i.fText,i.CY,i.CX⟩))) none) (k (.c2 m o p j n i)))
 |.c1 n l p q i o j=>mk (cond (Av9 l (Aw5 (La i))) (cond (Fa l (Aw5 (La i))) (cond (GU (Eb (Awf (La i)) l ⟨0,0,false,false,false,false,Awp,0⟩)) ((c ⟨(),p,q⟩ 3).bind fun m=>cond (!m.1) (cond (Fa l (Aw5 (La i))) (k (.c1 n (NM l) m.2.fI m.2.AyA i o ⟨j.Au,Ay1 j,(Eb (Awf (La i)) l ⟨0,0,false,false,false,false,Awp,0⟩).fId,j.Aj,j.fText,j.CY,j.CX⟩)) none) (k (.c1 n (NM l) m.2.fI m.2.AyA i o j))) (k (.c1 n (NM l) p q i o j))) none) (k (.c2 n p q i o j)))
 |.c2 w l m A j i=>mk (cond (i.Au == 2) ((c ⟨(),l,m⟩ 4).bind fun n=>cond n.1 (k (.c3 n.2.fI n.2.AyA j ⟨i.Au,Ay1 i,i.Ag,i.Aj,⟨#[110,111]⟩,i.CY,i.CX⟩)) (k (.c3 n.2.fI n.2.AyA j ⟨i.Au,Ay1 i,i.Ag,i.Aj,w,i.CY,i.CX⟩))) (cond (i.Au == 3) (k (.c3 l m j ⟨i.Au,Ay1 i,i.Ag,i.Aj,w,i.CY,i.CX⟩)) (cond (i.Au == 4) ((a ⟨(),l,m⟩ [1,2,2,2,3,3]).bind fun s=>(d (AzU s.2) VAj).bind fun t=>(c (AzU t.2) 3).bind fun u=>(c (AzU u.2) 3).bind fun o=>k (.c3 o.2.fI o.2.AyA j ⟨i.Au,Ay1 i,i.Ag,s.1,t.1,u.1,o.1⟩)) (cond (i.Au == 5) ((d ⟨(),l,m⟩ [⟨#[109]⟩,⟨#[110]⟩]).bind fun p=>k (.c3 p.2.fI p.2.AyA j ⟨i.Au,Ay1 i,i.Ag,i.Aj,p.1,i.CY,i.CX⟩)) (cond (i.Au == 8) ((c ⟨(),l,m⟩ 4).bind fun v=>(c (AzU v.2) 2).bind fun q=>k (.c3 q.2.fI q.2.AyA j ⟨i.Au,Ay1 i,i.Ag,i.Aj,i.fText,!v.1,q.1⟩)) (cond (i.Au == 11) ((e ⟨(),l,m⟩).bind fun r=>(f r.1).bind fun x=>(g A).bind fun y=>(h y x.1).bind fun z=>k (.c3 r.2.fI r.2.AyA j ⟨i.Au,Ay1 i,i.Ag,i.Aj,z.1,i.CY,i.CX⟩)) (k (.c3 l m j i))))))))
 |.c3 n o m i=>mk ((c ⟨(),n,o⟩ 20).bind fun j=>cond j.1 ((b (AzU j.2) 5).bind fun l=>k (.c4 l.2.fI l.2.AyA m ⟨i.Au,l.1,i.Ag,i.Aj,i.fText,i.CY,i.CX⟩)) (k (.c4 j.2.fI j.2.AyA m i)))
 |.c4 m n _ i=>mk ((c ⟨(),m,n⟩ 20).bind fun j=>cond j.1 ((b (AzU j.2) 9).bind fun l=>some (⟨i.Au,Ay1 i,l.1,i.Aj,i.fText,i.CY,i.CX⟩,AzU l.2)) (some (i,AzU j.2)))
def Ay5:AzH GAX (CV×DZ)
 |0,_=>none
 |m+1,s=>Yu CAX AyT Axp sW EAX Zb fZ gB (Ay5 m) s
def EAl:IAv:=ZAy CAX AyT Axp sW EAX Zb fZ gB (Ay5 AY)
def DBX:Avb:=fy u3 EAl Afd Afe [XBW,jO,QAy,UBG,Anz,HAk,WAy,YAy] Tryz.func105 CBX Yu ZAy Ay5 [0]
def ALz (b:iq) (L:IAv) (c:AxN):XAi:=fun J a=>mk (cond (!(Ayd a)) ((b (AzU J) 4).bind fun h=>cond (!h.1) (some (⟨⟨0,0,0,0,Awp,false,false⟩,false,[],true⟩,AzU h.2,a)) ((L (AzU h.2) a.AX ⟨#[119]⟩).bind fun d=>cond (AzC (FD (He a))) (cond (d.1.Au == 11) ((b (AzU d.2) 2).bind fun i=>cond i.1 ((c (AzU i.2) (FD (He a))).bind fun f=>cond (Ayf f.1 (FD (He a))) ((b (AzU f.2) 12).bind fun j=>cond j.1 ((c (AzU j.2) 2000).bind fun t=>(c (AzU t.2) 50).bind fun u=>OT b u.2 ⟨⟨0,0,0,0,Awp,false,false⟩,false,[],true⟩ a ⟨KAV d a f,true,[t.1,u.1],false⟩) (OT b j.2 ⟨⟨0,0,0,0,Awp,false,false⟩,false,[],true⟩ a ⟨KAV d a f,false,[],false⟩)) none) ((b (AzU i.2) 12).bind fun l=>cond l.1 ((c (AzU l.2) 2000).bind fun v=>(c (AzU v.2) 50).bind fun w=>OT b w.2 ⟨⟨0,0,0,0,Awp,false,false⟩,false,[],true⟩ a ⟨d.1,true,[v.1,w.1],false⟩) (OT b l.2 ⟨⟨0,0,0,0,Awp,false,false⟩,false,[],true⟩ a ⟨d.1,false,[],false⟩))) ((b (AzU d.2) 12).bind fun m=>cond m.1 ((c (AzU m.2) 2000).bind fun x=>(c (AzU x.2) 50).bind fun y=>OT b y.2 ⟨⟨0,0,0,0,Awp,false,false⟩,false,[],true⟩ a ⟨d.1,true,[x.1,y.1],false⟩) (OT b m.2 ⟨⟨0,0,0,0,Awp,false,false⟩,false,[],true⟩ a ⟨d.1,false,[],false⟩))) ((b (AzU d.2) 12).bind fun n=>cond n.1 ((c (AzU n.2) 2000).bind fun z=>(c (AzU z.2) 50).bind fun A=>OT b A.2 ⟨⟨0,0,0,0,Awp,false,false⟩,false,[],true⟩ a ⟨d.1,true,[z.1,A.1],false⟩) (OT b n.2 ⟨⟨0,0,0,0,Awp,false,false⟩,false,[],true⟩ a ⟨d.1,false,[],false⟩)))) ((L (AzU J) a.AX ⟨#[119]⟩).bind fun e=>cond (AzC (FD (He a))) (cond (e.1.Au == 11) ((b (AzU e.2) 2).bind fun o=>cond o.1 ((c (AzU o.2) (FD (He a))).bind fun g=>cond (Ayf g.1 (FD (He a))) ((b (AzU g.2) 12).bind fun p=>cond p.1 ((c (AzU p.2) 2000).bind fun B=>(c (AzU B.2) 50).bind fun C=>OT b C.2 ⟨⟨0,0,0,0,Awp,false,false⟩,false,[],true⟩ a ⟨KAV e a g,true,[B.1,C.1],false⟩) (OT b p.2 ⟨⟨0,0,0,0,Awp,false,false⟩,false,[],true⟩ a ⟨KAV e a g,false,[],false⟩)) none) ((b (AzU o.2) 12).bind fun q=>cond q.1 ((c (AzU q.2) 2000).bind fun D=>(c (AzU D.2) 50).bind fun E=>OT b E.2 ⟨⟨0,0,0,0,Awp,false,false⟩,false,[],true⟩ a ⟨e.1,true,[D.1,E.1],false⟩) (OT b q.2 ⟨⟨0,0,0,0,Awp,false,false⟩,false,[],true⟩ a ⟨e.1,false,[],false⟩))) ((b (AzU e.2) 12).bind fun r=>cond r.1 ((c (AzU r.2) 2000).bind fun F=>(c (AzU F.2) 50).bind fun G=>OT b G.2 ⟨⟨0,0,0,0,Awp,false,false⟩,false,[],true⟩ a ⟨e.1,true,[F.1,G.1],false⟩) (OT b r.2 ⟨⟨0,0,0,0,Awp,false,false⟩,false,[],true⟩ a ⟨e.1,false,[],false⟩))) ((b (AzU e.2) 12).bind fun s=>cond s.1 ((c (AzU s.2) 2000).bind fun H=>(c (AzU H.2) 50).bind fun I=>OT b I.2 ⟨⟨0,0,0,0,Awp,false,false⟩,false,[],true⟩ a ⟨e.1,true,[H.1,I.1],false⟩) (OT b s.2 ⟨⟨0,0,0,0,Awp,false,false⟩,false,[],true⟩ a ⟨e.1,false,[],false⟩))))
def yB:XAi:=ALz Axp EAl AyT
def EBX:Avb:=BI u2 yB Aff Afg [QAy,DBX,jO] Tryz.func59 ALz [0, 64]
def BAz:SH:=fun a b c=>mk (cond (FC ((0+a.Bq.length)*8)) (cond (PD a.Bq) (cond (Ayo (0+(He a).length)) (cond (AxW (He a)) (some ⟨a.AX,a.Bq++[b],(He a)++[c],F9 a,a.CO⟩) none) none) none) none)
def XG:SH:=BAz
def CAz:Avb:=BI u3 XG AVO VB [] Tryz.func78 BAz [0]
def VBG:iw:=fun a b=>some ([],a,b)
def vI:iw:=VBG
def IAX:Avb:=BI u2 vI AKr Oh [] Tryz.func182 VBG
def DAz:Ay4:=fun a=>mk (cond (a<10) (some (w8 (Ayv (48+a)))) (some (w8 (Ayv ((Ayv (97+a)) - 10)))))
def FAl:Ay4:=DAz
def FBX:Avb:=BI u1 FAl FN Afh [] Tryz.func240 DAz
inductive JAX where
 |c0 (a:Int) (b:Bool) (d:AA)
def GBX:JAX->Avm
 |.c0 a b d=>(tdo Tryz.f184 992,[vi 0 a,vb 3 b,vs 4 d],[])
def EAz (b:Ay4) (k:Aw7 JAX AA):AzI:=fun a=>mk (cond (Ayy a) (some ⟨#[48]⟩) (k (.c0 a (Ayn a) Awp)))
def FAz (a:Ay4) (k:Aw7 JAX AA):Aw7 JAX AA
 |.c0 c e b=>mk (cond (c != 0) (cond (Ayn (c.tmod 10)) ((a (Ayv (0 - (c.tmod 10)))).bind fun d=>cond (LZ (ofBytes [d]) b) (k (.c0 (Ayv (c.tdiv 10)) e ((ofBytes [d])++b))) none) ((a (c.tmod 10)).bind fun f=>cond (LZ (ofBytes [f]) b) (k (.c0 (Ayv (c.tdiv 10)) e ((ofBytes [f])++b))) none)) (cond e (AxL (LZ (Ax6 ⟨#[45]⟩) b) (some ((Ax6 ⟨#[45]⟩)++b))) (some b)))
def KAX:AzH JAX AA
 |0,_=>none
 |m+1,s=>FAz FAl (KAX m) s
def lF:AzI:=EAz FAl (KAX AY)
def WBG:Avb:=fy u1 lF FN Cc [FBX] Tryz.func184 GBX FAz EAz KAX
def XBG:iy:=fun a b=>some (a,0,b)
def vJ:iy:=XBG
def LAX:Avb:=BI u2 vJ Afi Oh [] Tryz.func183 XBG
inductive MAX where
 |c0 (a b:Int) (d:Ap)
def HBX:MAX->Avm
 |.c0 b d a=>(tdo Tryz.f185 208,[vi 1 b,vp 2 128,vi 5 d],[(128,.var [.str a.BO,.bool a.CZ,.BG 90 a.Bc.Ak,.str a.AU.Bv,li a.AU.DU,.BG 76 a.AU.AZ,li a.AU.BM,.str a.AU.Dh,li a.AU.fCount,.BG 127 a.BP,.BG 157 a.BD,li a.CW])])
def GAz (k:Aw7 MAX Int):Jv:=fun b a=>k (.c0 a 0 b)
def GAl (k:Aw7 MAX Int):Aw7 MAX Int
 |.c0 c a b=>mk (cond (Av9 a (Me b)) (cond (Fa a (Me b)) (cond ((Vl (Qd b) a ⟨0,false⟩).fId == c) (some a) (k (.c0 c (NM a) b))) none) U4)
def lC:AzH MAX Int
 |0,_=>none
 |m+1,s=>GAl (lC m) s
def HAl:Jv:=GAz (lC AY)
def IBX:Avb:=fy u2 HAl wU FN [] Tryz.func185 HBX GAl GAz lC
def HAz (d:iw) (e:AwT) (c:iy):Rk:=fun a f=>mk (cond ((AwG a) == 3) (AwK (d 3 ⟨#[108,111,99,107,101,100]⟩)) ((e f.fText).bind fun b=>cond (Aww b (La a).Bv) (cond (Ayy (AwG a)) (AwK (c [] Awp)) (AwK (c [⟨2,Awp,0,⟨0,0,false,false,false,false,Awp,0⟩⟩] Awp))) (some ([⟨2,Awp,NM (AwG a),⟨0,0,false,false,false,false,Awp,0⟩⟩],4,⟨#[119,111,114,100]⟩))))
def IAl:Rk:=HAz vI Jt vJ
def JBX:Avb:=BI u2 IAl bM Oh [IAX,Ayr,LAX] Tryz.func186 HAz
def IAz (d:AwT):uM:=fun a b=>mk (cond (a == 1) ((d b).bind fun c=>some (⟨0,a,true,false,false,true,c,0⟩,true)) (cond (a == 2) ((d b).bind fun e=>some (⟨0,a,true,false,true,false,e,0⟩,true)) (cond (a == 3) (cond ((Awq b)<=100) (some (⟨0,a,false,false,false,false,b,0⟩,true)) (some (⟨0,0,false,false,false,false,Awp,0⟩,false))) (some (⟨0,0,false,false,false,false,Awp,0⟩,false)))))
def JAl:uM:=IAz Jt
def KBX:Avb:=BI u2 JAl AKr Yb [Ayr] Tryz.func187 IAz
def YBG:CAV:=fun a=>mk (some [⟨3,Awp,0,a⟩])
def KAl:CAV:=YBG
def JAz:Avb:=BI u1 KAl S9 Afj [] Tryz.func241 YBG
def KAz (g:iw) (c:CAV) (d:AzI) (e:iy):Zy:=fun b f a q=>mk (cond (!q) (AwK (g 6 SAV)) (cond ((ND (La b)) == 8) (AwK (g 1 jG)) (cond ((Qx b) == 1000) (AwK (g 1 jG)) (cond (AzT a) (cond (Awk a) ((c ⟨AyD b,Nb a,true,true,GU a,AwY a,Oc a,a.fNext⟩).bind fun h=>(d (AyD b)).bind fun i=>AwK (e h i)) ((c ⟨AyD b,Nb a,true,f.CX,GU a,AwY a,Oc a,a.fNext⟩).bind fun j=>(d (AyD b)).bind fun l=>AwK (e j l))) (cond (Awk a) ((c ⟨AyD b,Nb a,f.CY,true,GU a,AwY a,Oc a,a.fNext⟩).bind fun m=>(d (AyD b)).bind fun n=>AwK (e m n)) ((c ⟨AyD b,Nb a,f.CY,f.CX,GU a,AwY a,Oc a,a.fNext⟩).bind fun o=>(d (AyD b)).bind fun p=>AwK (e o p)))))))
def yC:Zy:=KAz vI KAl lF vJ
def ZBG:Avb:=BI u4 yC AVP Oh [IAX,JAz,WBG,LAX] Tryz.func188 KAz
def LAz:JAv:=fun a b=>mk (some (Aww a b))
def MAz:JAv:=LAz
def LBX:Avb:=BI u2 MAz KJ E8 [] Tryz.func203 LAz
def NAz (h:Zt) (i:Zu) (j:JAv) (l:AxG):Pn:=fun c d a=>mk (cond ((Awq a)<16) (MZ (Awp,false)) (FK (WAV a) ((h c d (Awq (aP a))).bind fun b=>cond (!b.2) (MZ (Awp,false)) ((i c d (aP a)).bind fun e=>FK (Hf (Awq (aP a)) (Awq a)) ((j e (QJ a (Awq (aP a)))).bind fun f=>cond (!f) (MZ (Awp,false)) ((l (aP a) b.1).bind fun g=>MZ (g,true)))))))
def lG:Pn:=NAz RAW UAW MAz TAW
def Aaw:Avb:=BI u3 lG VA IQ [MBG,OBG,LBX,NBG] Tryz.func141 NAz
inductive OAX where
 |c0 (a:AA) (b d:Int) (e f:Int)
def MBX:OAX->Avm
 |.c0 a b d e f=>(tdo Tryz.f201 2000,[vs 0 a,vi 1 b,vi 7 d,vi 8 e,vi 9 f],[])
def PAX (d:Va) (e:AzI) (k:Aw7 OAX (Int×Int×Bool)):SS:=fun c a=>mk ((d a 0 (Awq c)).bind fun b=>cond (!b) (some (0,0,false)) (k (.c0 c a 0 1 a)))
def LAl (a:Va) (b:AzI) (k:Aw7 OAX (Int×Int×Bool)):Aw7 OAX (Int×Int×Bool)
 |.c0 d f g e c=>mk (cond (KZ c (Awq d)) (cond (KZ c (Ayv (f+5))) (cond (Ayf c (Awq d)) (cond (Ayf c (Awq d)) (cond ((bt d c)<128) (cond ((AxZ g (Ayv (((Vk d c).tmod 128)*e))) > 1000000000) (some (0,0,false)) ((b (AxZ g (Ayv (((Vk d c).tmod 128)*e)))).bind fun h=>cond (Om f (NM c) (Awq d)) (cond (!(Aww h (d.extract (Axd f) (QE c)))) (some (0,0,false)) (some (AxZ g (Ayv (((Vk d c).tmod 128)*e)),NM c,true))) none)) (k (.c0 d f (AxZ g (Ayv (((Vk d c).tmod 128)*e))) (Ayv (e*128)) (NM c)))) none) none) (some (0,0,false))) (some (0,0,false)))
def AwJ:AzH OAX (Int×Int×Bool)
 |0,_=>none
 |m+1,s=>LAl AzN SC (AwJ m) s
def U0:SS:=PAX AzN SC (AwJ AY)
def OAz:Avb:=fy u2 U0 Q9 AVQ [AzY,aW] Tryz.func201 MBX LAl PAX AwJ
def PAz (f:Pn) (g:SS) (h:AxO):AxO:=fun d e=>mk ((f d 0 e).bind fun b=>(g b.1 0).bind fun a=>cond (!b.2) (MZ (Awp,false)) (cond (!a.2.2) (MZ (Awp,false)) (cond (Ayt a.1 (Aw9 (Awq b.1) a.2.1)) (MZ (Awp,false)) (FK (Om a.2.1 (AxZ a.2.1 a.1) (Awq b.1)) ((h d (Vj b.1 a.2.1 (a.2.1+a.1))).bind fun c=>cond (!c.2) (MZ (Awp,false)) (cond (!(Aww c.1 e)) (MZ (Awp,false)) (MZ (Vj b.1 a.2.1 (a.2.1+a.1),true))))))))
def MAl:AxO:=PAz lG U0 gB
def NBX:Avb:=BI u2 MAl KJ IQ [Aaw,OAz,YAy] Tryz.func242 PAz
def NAl (c:SS):Zz:=fun a=>(c a.fText a.ER).bind fun b=>cond a.I7 (some (0,⟨a.fText,a.ER,true⟩)) (cond (!b.2.2) (some (0,⟨a.fText,a.ER,true⟩)) (some (b.1,⟨a.fText,b.2.1,a.I7⟩)))
def Zj:Zz:=NAl U0
def QAz:Avb:=BI u1 Zj AKs AVR [OAz] Tryz.func208 NAl [0]
def OAl:DAV:=fun a b=>mk (cond a.I7 (some (Awp,⟨a.fText,a.ER,true⟩)) (cond (Ayt b (Aw9 (Awq a.fText) a.ER)) (some (Awp,⟨a.fText,a.ER,true⟩)) (cond (Om (Aw9 (AxZ a.ER b) b) (AxZ a.ER b) (Awq a.fText)) (some (a.fText.extract (Ic ((AxZ a.ER b) - b)) (Ic (a.ER+b)),⟨a.fText,AxZ a.ER b,a.I7⟩)) none)))
def Axv:DAV:=OAl
def RAz:Avb:=BI u2 Axv Afk AVS [] Tryz.func207 OAl [0]
def PAl (b:DAV):Zz:=fun c=>mk ((b c 1).bind fun a=>cond a.2.I7 (some (0,a.2)) (cond (WR Qa (Awq a.1)) (some (Ayv (bt a.1 0),a.2)) none))
def Azc:Zz:=PAl Axv
def BBH:Avb:=BI u1 Azc AKs AVR [RAz] Tryz.func206 PAl [0]
def QAl (c:Zz) (e:DAV):KAv:=fun d=>(c d).bind fun a=>(e a.2 a.1).bind fun b=>some (b.1,b.2)
def su:KAv:=QAl Zj Axv
def OBX:Avb:=BI u1 su AKs AVS [QAz,RAz] Tryz.func257 QAl [0]
def RAl (g i:Zz) (j:KAv) (l:Td):Z4:=fun h=>mk ((g ⟨h,0,false⟩).bind fun b=>(i b.2).bind fun c=>(i c.2).bind fun a=>(j a.2).bind fun d=>(g d.2).bind fun e=>(l ⟨b.1,c.1,PK a.1,PK (Av5 a.1),PK (aU a.1),PK (Ayv (Avy a.1)),d.1,e.1⟩).bind fun f=>cond e.2.I7 (some (⟨0,0,false,false,false,false,Awp,0⟩,false)) (cond (!f.2) (some (⟨0,0,false,false,false,false,Awp,0⟩,false)) (cond (!(Aww f.1 h)) (some (⟨0,0,false,false,false,false,Awp,0⟩,false)) (some (⟨b.1,c.1,PK a.1,PK (Av5 a.1),PK (aU a.1),PK (Ayv (Avy a.1)),d.1,e.1⟩,true)))))
def Xh:Z4:=RAl Zj Azc su Zb
def CBH:Avb:=BI u1 Xh Cc Yb [QAz,BBH,OBX,HAk] Tryz.func209 RAl
def DBH:uN:=fun a=>mk (some ⟨0,Nb a,AzT a,Awk a,false,AwY a,Oc a,0⟩)
def SAz:uN:=DBH
def PBX:Avb:=BI u1 SAz S9 S9 [] Tryz.func243 DBH
def TAz (h:WU) (i:AxO) (j:Z4) (l:uN) (g:Zy):Rk:=fun a c=>mk ((h a).bind fun f=>(i f c.fText).bind fun b=>(j b.1).bind fun d=>(l d.1).bind fun e=>cond b.2 (AwK (g a c e d.2)) (AwK (g a c e false)))
def SAl:Rk:=TAz fZ MAl Xh SAz yC
def QBX:Avb:=BI u2 SAl bM Oh [WAy,NBX,CBH,PBX,ZBG] Tryz.func189 TAz
def UAz (d:AwZ):uO:=fun a b=>mk ((d a).bind fun c=>Axg (!c) (some false) (Axg (b == 1) (some (!(AzT a))) (Axg (b == 2) (Axg (!(Awk a)) (some ((Nb a) != 2)) (some false)) (Axg (b == 3) (some (GU a)) (Axg (b == 4) (some (AwY a)) (some (b == 5)))))))
def TAl:uO:=UAz Xq
def RBX:Avb:=BI u2 TAl AVT E8 [HAW] Tryz.func244 UAz
inductive QAX where
 |c0 (a:Int) (b:Ap) (d:Af)
def SBX:QAX->Avm
 |.c0 d a b=>(tdo Tryz.f193 208,[vp 2 128,vp 3 192,vi 5 d],[(128,.var [.str a.BO,.bool a.CZ,.BG 90 a.Bc.Ak,.str a.AU.Bv,li a.AU.DU,.BG 76 a.AU.AZ,li a.AU.BM,.str a.AU.Dh,li a.AU.fCount,.BG 127 a.BP,.BG 157 a.BD,li a.CW]),(192,.var [li b.fId,li b.Aj,.bool b.CY,.bool b.CX,.bool b.Gw,.bool b.GH,.str b.fValue,li b.fNext])])
def VAz (k:Aw7 QAX Int):YAi:=fun a b=>k (.c0 0 a b)
def UAl (k:Aw7 QAX Int):Aw7 QAX Int
 |.c0 a b c=>mk (cond (Av9 a (NS b)) (cond (Fa a (NS b)) (cond ((Pq (Qe b) a).fId == c.fId) (cond (Fa a (NS b)) (some (Pq (Qe b) a).fNext) none) (k (.c0 (NM a) b c))) none) (some c.fNext))
def lJ:AzH QAX Int
 |0,_=>none
 |m+1,s=>UAl (lJ m) s
def yI:YAi:=VAz (lJ AY)
def EBH:Avb:=fy u2 yI Afl FN [] Tryz.func193 SBX UAl VAz lJ
def WAz (c:AzI):WT:=fun b d=>mk ((c d).bind fun a=>AxL (LZ b a) (AxL (LZ (b++a) vH) (some ((b++a)++vH))))
def VAl:WT:=WAz Awm
def TBX:Avb:=BI u2 VAl Q9 Cc [YL] Tryz.func313 WAz
def XAz (b:AwT):AwT:=fun c=>mk ((b c).bind fun a=>AxL ((Av2 Qa QM) && (decide (4<=(Awq a)))) (some (Ayg a QM)))
def AwQ:AwT:=XAz Jt
def SAX:Avb:=BI u1 AwQ Cc Cc [Ayr] Tryz.func371 XAz
inductive TAX where
 |c0 (a:AA) (b d:Int) (e:(List AA))
def UBX:TAX->Avm
 |.c0 a b d e=>(tdo Tryz.f346 464,[vs 0 a,vi 1 b,vo 5 368,vi 6 d],[(368,.sl 9 e)])
def YAz (c:AzI) (d:AwT) (k:Aw7 TAX (List AA)):AzE:=fun a b=>k (.c0 a b 0 [])
def WAl (a:AzI) (b:AwT) (k:Aw7 TAX (List AA)):Aw7 TAX (List AA)
 |.c0 d h f g=>mk (cond (f<10) ((a h).bind fun c=>cond (LZ d c) ((a f).bind fun e=>cond (Awg d c e) (cond (LZ ((d++c)++e) (Ax6 ⟨#[111]⟩)) ((b (((d++c)++e)++(Ax6 ⟨#[111]⟩))).bind fun i=>cond (AxW g) (k (.c0 d h (NM f) (g++[i]))) none) none) none) none) (some g))
def dN:AzH TAX (List AA)
 |0,_=>none
 |m+1,s=>WAl Awm AwQ (dN m) s
def lK:AzE:=YAz Awm AwQ (dN AY)
def FBH:Avb:=fy u2 lK Q9 VD [YL,SAX] Tryz.func346 UBX WAl YAz dN
inductive UAX where
 |c0 (a:AA) (b d:Int) (e f g:Int)
def VBX:UAX->Avm
 |.c0 a b d e f g=>(tdo Tryz.f370 208,[vs 0 a,vi 1 b,vi 2 d,vi 3 e,vi 4 f,vi 11 g],[])
def ZAz (f:AzI) (g:AwT) (k:Aw7 UAX AA):Tj:=fun a b c d e=>k (.c0 a b c d e 0)
def XAl (a:AzI) (b:AwT) (k:Aw7 UAX AA):Aw7 UAX AA
 |.c0 g i j l h e=>mk (cond (KZ e h) (cond (e<15) ((a i).bind fun c=>(a j).bind fun d=>cond (LZ c d) ((a (AxZ (l.tmod 256) e)).bind fun f=>cond (Awg c d f) (cond (Awg (c++d) f g) ((b (((c++d)++f)++g)).bind fun m=>k (.c0 m i j l h (NM e))) none) none) none) (some g)) (some g))
def lM:AzH UAX AA
 |0,_=>none
 |m+1,s=>XAl Awm AwQ (lM m) s
def dQ:Tj:=ZAz Awm AwQ (lM AY)
def GBH:Avb:=fy u5 dQ AVU Cc [YL,SAX] Tryz.func370 VBX XAl ZAz lM
inductive VAX where
 |c0 (a:(List AA)) (b:Int) (d:AA) (e:Int)
def WBX:VAX->Avm
 |.c0 a b d e=>(tdo Tryz.f368 976,[vr 0 9 a,vi 1 b,vs 5 d,vi 6 e],[])
def AML (c:Tj) (d:AwT) (k:Aw7 VAX AA):Z5:=fun a b=>mk (cond ((FD a) != 10) AzP (k (.c0 a b Awp 0)))
def YAl (a:Tj) (b:AwT) (k:Aw7 VAX AA):Aw7 VAX AA
 |.c0 d g f c=>mk (cond (c<10) (cond (NZ c d) ((a (Jf d c Awp) g c 0 15).bind fun e=>cond (LZ f e) (k (.c0 d g (f++e) (NM c))) none) none) (Ax9 (b f)))
def lN:AzH VAX AA
 |0,_=>none
 |m+1,s=>YAl dQ AwQ (lN m) s
def yK:Z5:=AML dQ AwQ (lN AY)
def XBX:Avb:=fy u2 yK wV Cc [GBH,SAX] Tryz.func368 WBX YAl AML lN
inductive XAX where
 |c0 (a:AA) (b:Int) (d:(List AA))
def YBX:XAX->Avm
 |.c0 a b d=>(tdo Tryz.f344 464,[vs 0 a,vo 3 240,vi 4 b],[(240,.sl 9 d)])
def BA0 (b:AzE) (c:Z5) (k:Aw7 XAX (List AA)):Z7:=fun a=>k (.c0 a 0 [])
def ZAl (a:AzE) (b:Z5) (k:Aw7 XAX (List AA)):Aw7 XAX (List AA)
 |.c0 f c d=>mk (cond (c<4) ((a f c).bind fun e=>(b e c).bind fun g=>cond (AxW d) (k (.c0 f (NM c) (d++[g]))) none) (some d))
def lS:AzH XAX (List AA)
 |0,_=>none
 |m+1,s=>ZAl lK yK (lS m) s
def yL:Z7:=BA0 lK yK (lS AY)
def HBH:Avb:=fy u1 yL Cc VD [FBH,XBX] Tryz.func344 YBX ZAl BA0 lS
def CA0 (e:AzI) (h:AwT):Z8:=fun f g c d=>mk ((e f).bind fun a=>(e g).bind fun b=>AxL (LZ a b) (AxL (Awg a b c) (AxL (Awg (a++b) c d) (AxL (LZ (((a++b)++c)++d) (Ax6 ⟨#[110]⟩)) (Ax9 (h ((((a++b)++c)++d)++(Ax6 ⟨#[110]⟩))))))))
def Yy:Z8:=CA0 Awm AwQ
def ZBX:Avb:=BI u4 Yy AVV Cc [YL,SAX] Tryz.func381 CA0
inductive ZAX where
 |c0 (a:Int) (b:(List AA)) (d:Int) (e:(List AA))
def AoP:ZAX->Avm
 |.c0 a b d e=>(tdo Tryz.f367 464,[vi 0 a,vr 1 9 b,vo 5 368,vi 6 d],[(368,.sl 9 e)])
def AFr (c:Z8) (k:Aw7 ZAX (List AA)):Tn:=fun a b=>k (.c0 a b 0 [])
def yO (a:Z8) (k:Aw7 ZAX (List AA)):Aw7 ZAX (List AA)
 |.c0 f c b d=>mk (cond (KZ (Axq b) (FD c)) (cond (Ayf (Ayv (2*b)) (FD c)) (cond (Ayf (Axq b) (FD c)) ((a f b (c.getD (Ic (2*b)) (Ax6 Awp)) (Jf c (Axq b) Awp)).bind fun e=>cond (AxW d) (k (.c0 f c (NM b) (d++[e]))) none) none) none) (some d))
def Yz:AzH ZAX (List AA)
 |0,_=>none
 |m+1,s=>yO Yy (Yz m) s
def XJ:Tn:=AFr Yy (Yz AY)
def IBH:Avb:=fy u2 XJ AVW VD [ZBX] Tryz.func367 AoP yO AFr Yz
inductive BAY where
 |c0 (a:(List AA)) (b:Int)
 |c1 (b:Int) (a:(List AA))
def BBY:BAY->Avm
 |.c0 a b=>(tdo Tryz.f343 464,[vr 0 9 a,vi 3 b],[])
 |.c1 b a=>(tdo Tryz.f343 464,[vo 0 48,vi 3 b],[(48,.sl 9 a)])
def DA0 (b:Tn) (k:Aw7 BAY AA):uQ:=fun a=>mk (cond ((FD a) != 4) AzP (k (.c0 a 1)))
def BAm (a:Tn) (k:Aw7 BAY AA):Aw7 BAY AA
 |.c0 d b=>mk (cond (b<=2) ((a b d).bind fun c=>k (.c1 (NM b) c)) (VAV d))
 |.c1 b d=>mk (cond (b<=2) ((a b d).bind fun c=>k (.c1 (NM b) c)) (VAV d))
def lU:AzH BAY AA
 |0,_=>none
 |m+1,s=>BAm XJ (lU m) s
def CAm:uQ:=DA0 XJ (lU AY)
def CBY:Avb:=fy u1 CAm AVX Cc [IBH] Tryz.func343 BBY BAm DA0 lU
def EA0 (b:Z7) (d:uQ):AwT:=fun c=>mk ((b c).bind fun a=>Ax9 (d a))
def yP:AwT:=EA0 yL CAm
def JBH:Avb:=BI u1 yP Cc Cc [HBH,CBY] Tryz.func314 EA0
inductive lV where
 |c0 (a:AA) (b d:Int) (e:(List Int))
def DBY:lV->Avm
 |.c0 a b d e=>(tdo Tryz.f369 2000,[vs 3 a,vo 4 304,vi 5 b,vi 6 d],[(304,.sl 3 e)])
def FA0 (b:AwT) (k:Aw7 lV (List Int)):Ayz:=fun c=>(b c).bind fun a=>k (.c0 a 0 0 [])
def DAm (a:AwT) (k:Aw7 lV (List Int)):Aw7 lV (List Int)
 |.c0 c e b d=>mk (cond (b<4) (cond (Ayf b (Awq c)) (cond (Ayf b (Awq c)) (cond (FC ((d.length+2)*8)) (cond (Ayf b (Awq c)) (cond (Ayf b (Awq c)) (k (.c0 c (Aw9 (Aw9 (Ayv (e+30)) (jL (Vk c b))) ((Vk c b).tmod 16)) (NM b) (d++[jL (Vk c b),(Vk c b).tmod 16]))) none) none) none) none) none) (JG (FC ((d.length+2)*8)) (Md (d++[jL e,e.tmod 16]))))
def dU:AzH lV (List Int)
 |0,_=>none
 |m+1,s=>DAm AwQ (dU m) s
def yQ:Ayz:=FA0 AwQ (dU AY)
def EBY:Avb:=fy u1 yQ Cc JZ [SAX] Tryz.func369 DBY DAm FA0 dU
inductive lX where
 |c0 (a:(List AA)) (b d:Int) (e:(List AA)) (f:(List Int))
def FBY:lX->Avm
 |.c0 a b d e f=>(tdo Tryz.f345 2000,[vr 0 9 a,vi 1 b,vo 7 496,vo 8 560,vi 9 d],[(496,.sl 9 e),(560,.sl 3 f)])
def GA0 (c:Ayz) (f:Tj) (k:Aw7 lX (List AA)):uT:=fun a e d=>mk (cond ((FD a) != 10) (some []) ((c d).bind fun b=>k (.c0 a e 0 [] b)))
def HA0 (a:Ayz) (b:Tj) (k:Aw7 lX (List AA)):Aw7 lX (List AA)
 |.c0 d h c f e=>mk (cond (c<10) (cond (NZ c d) (cond (Fb c e) ((b (Jf d c Awp) h c 0 (GZ e c)).bind fun g=>cond (AxW f) (k (.c0 d h (NM c) (f++[g]) e)) none) none) none) (some f))
def yT:AzH lX (List AA)
 |0,_=>none
 |m+1,s=>HA0 yQ dQ (yT m) s
def EAm:uT:=GA0 yQ dQ (yT AY)
def GBY:Avb:=fy u3 EAm AVY VD [EBY,GBH] Tryz.func345 FBY HA0 GA0 yT
inductive GAY where
 |c0 (a:(List AA)) (b d:Int) (e:(List AA))
 |c1 (b d:Int) (a e:(List AA))
def HBY:GAY->Avm
 |.c0 a b d e=>(tdo Tryz.f347 976,[vr 0 9 a,vi 1 b,vo 5 368,vi 6 d],[(368,.sl 9 e)])
 |.c1 b d a e=>(tdo Tryz.f347 976,[vo 0 48,vi 1 b,vo 5 368,vi 6 d],[(48,.sl 9 a),(368,.sl 9 e)])
def IA0 (d:Va) (e:Tn) (k:Aw7 GAY (List AA)):uU:=fun a c=>mk (cond ((FD a) != 4) (some []) ((d c 0 3).bind fun b=>cond (!b) (some []) (k (.c0 a c 1 []))))
def FAm (a:Va) (b:Tn) (k:Aw7 GAY (List AA)):Aw7 GAY (List AA)
 |.c0 d c e f=>mk (cond (e<=2) (cond (PK c) (cond (Ayf (AyV c) (FD d)) (cond (AxW f) ((b e d).bind fun g=>k (.c1 (Av5 c) (NM e) g (f++[d.getD (Ic (c - 1)) (Ax6 Awp)]))) none) none) (cond (Ayf (NM c) (FD d)) (cond (AxW f) ((b e d).bind fun h=>k (.c1 (Av5 c) (NM e) h (f++[Jf d (NM c) Awp]))) none) none)) (some f))
 |.c1 c e d f=>mk (cond (e<=2) (cond (PK c) (cond (Ayf (AyV c) (FD d)) (cond (AxW f) ((b e d).bind fun g=>k (.c1 (Av5 c) (NM e) g (f++[d.getD (Ic (c - 1)) (Ax6 Awp)]))) none) none) (cond (Ayf (NM c) (FD d)) (cond (AxW f) ((b e d).bind fun h=>k (.c1 (Av5 c) (NM e) h (f++[Jf d (NM c) Awp]))) none) none)) (some f))
def yU:AzH GAY (List AA)
 |0,_=>none
 |m+1,s=>FAm AzN XJ (yU m) s
def GAm:uU:=IA0 AzN XJ (yU AY)
def IBY:Avb:=fy u2 GAm wV VD [AzY,IBH] Tryz.func347 HBY FAm IA0 yU
def JA0 (h:Va) (i:AzE) (j:uT) (m:Z7) (n:uU):uV:=fun d a l=>mk ((h a 0 3).bind fun b=>cond (!b) (some (jJ,false)) ((i d a).bind fun c=>(j c a l).bind fun e=>(m d).bind fun f=>(n f a).bind fun g=>some (⟨a,e,g⟩,true)))
def yV:uV:=JA0 AzN lK EAm yL GAm
def JBY:Avb:=BI u3 yV VA AVZ [AzY,FBH,GBY,HBH,IBY] Tryz.func315 JA0
def KA0 (i:Va) (j:WT) (l:AwT) (g:uV):uX:=fun c a m=>mk ((i a 0 15).bind fun e=>cond (!e) (some (⟨jJ,Awp,jJ⟩,false)) ((j c (aU a)).bind fun b=>(l b).bind fun d=>(g b (a.tmod 4) m).bind fun f=>cond (LZ c QK) ((g (c++QK) (aU a) d).bind fun h=>some (⟨h.1,d,f.1⟩,true)) none))
def HAm:uX:=KA0 AzN VAl yP yV
def KBY:Avb:=BI u3 HAm VA AVa [AzY,TBX,JBH,JBY] Tryz.func275 KA0
inductive dW where
 |c0 (b:Int) (a:IL)
 |c1 (d:Int) (a:IL)
def LBY:dW->Avm
 |.c0 b a=>(tdo Tryz.f38 464,[vp 1 64,vi 3 b],[(64,.var [li a.Dv,.BG 9 a.Fg,.BG 9 a.Gn])])
 |.c1 d a=>(tdo Tryz.f38 976,[vp 1 64,vi 4 d],[(64,.var [li a.Dv,.BG 9 a.Fg,.BG 9 a.Gn])])
def LA0 (c:Va) (k:Aw7 dW Bool):Z9:=fun a=>mk ((c a.Dv 0 3).bind fun b=>cond (!b) (some false) (cond ((FD a.Fg) != 10) (some false) (cond ((FD a.Gn) != 2) (some false) (k (.c0 0 a)))))
def yY (a:Va) (k:Aw7 dW Bool):Aw7 dW Bool
 |.c0 c b=>mk (cond (KZ c (FD b.Fg)) (cond (NZ c b.Fg) (cond ((Awq (Jf b.Fg c Awp)) != 4) (some false) (k (.c0 (NM c) b))) none) (k (.c1 0 b)))
 |.c1 b c=>mk (cond (KZ b (FD c.Gn)) (cond (NZ b c.Gn) (cond ((Awq (Jf c.Gn b Awp)) != 4) (some false) (k (.c1 (NM b) c))) none) (some true))
def XK:AzH dW Bool
 |0,_=>none
 |m+1,s=>yY AzN (XK m) s
def yX:Z9:=LA0 AzN (XK AY)
def MBY:Avb:=fy u1 yX AEo E8 [AzY] Tryz.func38 LBY yY LA0 XK
inductive dX where
 |c0 (a:AA) (d:Int) (b:IL)
 |c1 (a:AA) (e:Int) (b:IL)
def NBY:dX->Avm
 |.c0 b d a=>(tdo Tryz.f316 976,[vp 1 64,vs 4 b,vi 5 d],[(64,.var [li a.Dv,.BG 9 a.Fg,.BG 9 a.Gn])])
 |.c1 b e a=>(tdo Tryz.f316 2000,[vp 1 64,vs 4 b,vi 6 e],[(64,.var [li a.Dv,.BG 9 a.Fg,.BG 9 a.Gn])])
def MA0 (d:Z9) (e:AzI) (k:Aw7 dX (AA×Bool)):uY:=fun a=>mk ((d a).bind fun b=>cond (!b) (MZ (Awp,false)) ((e a.Dv).bind fun c=>k (.c0 c 0 a)))
def lq (a:Z9) (b:AzI) (k:Aw7 dX (AA×Bool)):Aw7 dX (AA×Bool)
 |.c0 e c d=>mk (cond (c<10) (cond (NZ c d.Fg) (cond (LZ e (Jf d.Fg c Awp)) (k (.c0 (e++(Jf d.Fg c Awp)) (NM c) d)) none) none) (k (.c1 e 0 d)))
 |.c1 e c d=>mk (cond (U5 c) (cond (NZ c d.Gn) (cond (LZ e (Jf d.Gn c Awp)) (k (.c1 (e++(Jf d.Gn c Awp)) (NM c) d)) none) none) (MZ (e,true)))
def Awn:AzH dX (AA×Bool)
 |0,_=>none
 |m+1,s=>lq yX Awm (Awn m) s
def IAm:uY:=MA0 yX Awm (Awn AY)
def OBY:Avb:=fy u1 IAm AEo IQ [MBY,YL] Tryz.func316 NBY lq MA0 Awn
def NA0 (d:uY):uZ:=fun a=>mk ((d a.QU).bind fun b=>(d a.QV).bind fun c=>cond (!b.2) (MZ (Awp,false)) (cond (!c.2) (MZ (Awp,false)) (cond ((Awq a.QS) != 4) (MZ (Awp,false)) (FK (LZ b.1 a.QS) (FK (LZ (b.1++a.QS) c.1) (MZ ((b.1++a.QS)++c.1,true)))))))
def JAm:uZ:=NA0 IAm
def PBY:Avb:=BI u1 JAm AVb IQ [OBY] Tryz.func276 NA0
def OA0 (i:YAi) (l:iw) (m:uX) (o:uZ) (g:CAV) (d:iy):Tq:=fun j n a=>mk ((i j a).bind fun b=>cond (b == 16) (AwK (l 1 jG)) ((m (Oc a) b n.fText).bind fun e=>(o e.1).bind fun c=>cond (b == a.fNext) (cond ((Ayv (a.fNext+3)) > 16) ((g ⟨a.fId,Nb a,AzT a,Awk a,GU a,AwY a,Oc a,16⟩).bind fun f=>AwK (d f c.1)) ((g ⟨a.fId,Nb a,AzT a,Awk a,GU a,AwY a,Oc a,Ayv (a.fNext+3)⟩).bind fun h=>AwK (d h c.1))) (AwK (d [] c.1))))
def KAm:Tq:=OA0 yI vI HAm JAm KAl vJ
def QBY:Avb:=BI u3 KAm AEp Oh [EBH,IAX,KBY,PBY,JAz,LAX] Tryz.func245 OA0
inductive NAY where
 |c0 (a:AA) (b:Int) (d:(List Int))
 |c1 (a:AA) (b e f:Int) (d:(List Int))
def RBY:NAY->Avm
 |.c0 a b d=>(tdo Tryz.f382 464,[vs 0 a,vo 3 240,vi 4 b],[(240,.sl 274 d)])
 |.c1 a b e f d=>(tdo Tryz.f382 119376,[vs 0 a,vo 3 240,vi 4 b,(5,[.one (.int .u64 e)]),vi 6 f],[(240,.sl 274 d)])
def PA0 (k:Aw7 NAY (List Int)):Ayz:=fun a=>k (.c0 a 0 [])
def yc (k:Aw7 NAY (List Int)):Aw7 NAY (List Int)
 |.c0 b a c=>mk (cond (Av2 (Ayv (a+8)) (Awq b)) (k (.c1 b a 0 7 c)) (Md c))
 |.c1 c b e a d=>mk (cond (Jw a) (cond (Ayf (AxZ b a) (Awq c)) (k (.c1 c b (Ay8 ((Ay8 (e*256))+(Ay8 (bt c (AxZ b a))))) (AyV a) d)) none) (cond (PD d) (k (.c0 c (Ayv (b+8)) (d++[e]))) none))
def Y0:AzH NAY (List Int)
 |0,_=>none
 |m+1,s=>yc (Y0 m) s
def lu:Ayz:=PA0 (Y0 AY)
def KBH:Avb:=fy u1 lu Cc wW [] Tryz.func382 RBY yc PA0 Y0
inductive QAY where
 |c0 (a b d:Int) (e:(List Int))
def SBY:QAY->Avm
 |.c0 a b d e=>(tdo Tryz.f387 2000,[vo 1 112,vi 2 a,vi 3 b,vi 4 d],[(112,.sl 3 e)])
def LBH (k:Aw7 QAY (List Int)):Azb:=mk (k (.c0 1 0 0 (SV (25:Int))))
def MBH (k:Aw7 QAY (List Int)):Aw7 QAY (List Int)
 |.c0 c b a d=>mk (cond (a<24) (cond (Av1 (AzG c b) d) (k (.c0 b (jM c b) (NM a) (d.set (Ic (AzG c b)) ((Av5 (Ayv ((NM a)*(Ayv (a+2))))).tmod 64)))) none) (Md d))
def QA0:AzH QAY (List Int)
 |0,_=>none
 |m+1,s=>MBH (QA0 m) s
def LAm:Azb:=LBH (QA0 AY)
def TBY:Avb:=fy u0 LAm Yc JZ [] Tryz.func387 SBY MBH LBH QA0
inductive RAY where
 |c0 (a b:Int) (d:(List Int))
 |c1 (a b:Int) (e f g:Int) (d:(List Int))
def UBY:RAY->Avm
 |.c0 a b d=>(tdo Tryz.f388 976,[vo 1 112,vi 2 a,vi 3 b],[(112,.sl 274 d)])
 |.c1 a b e f g d=>(tdo Tryz.f388 500944,[vo 1 112,vi 2 a,vi 3 b,(4,[.one (.int .u64 e)]),(5,[.one (.int .u64 f)]),vi 6 g],[(112,.sl 274 d)])
def RA0 (k:Aw7 RAY (List Int)):Azb:=k (.c0 1 0 [])
def NBH (k:Aw7 RAY (List Int)):Aw7 RAY (List Int)
 |.c0 c a b=>mk (cond (a<24) (k (.c1 c a 0 1 0 b)) (Md b))
 |.c1 b e f a d c=>mk (cond (d<7) (cond (PK b) (cond ((Ayv (b*2))>=256) (k (.c1 (TAj ((Ayv (b*2)) - 256)) e (Ay8 (f+a)) (Ay8 ((Ay8 (a*a))*2)) (NM d) c)) (k (.c1 (Ayv (b*2)) e (Ay8 (f+a)) (Ay8 ((Ay8 (a*a))*2)) (NM d) c))) (cond ((Ayv (b*2))>=256) (k (.c1 (TAj ((Ayv (b*2)) - 256)) e f (Ay8 ((Ay8 (a*a))*2)) (NM d) c)) (k (.c1 (Ayv (b*2)) e f (Ay8 ((Ay8 (a*a))*2)) (NM d) c)))) (cond (PD c) (k (.c0 b (NM e) (c++[f]))) none))
def SA0:AzH RAY (List Int)
 |0,_=>none
 |m+1,s=>NBH (SA0 m) s
def yh:Azb:=RA0 (SA0 AY)
def VBY:Avb:=fy u0 yh Yc wW [] Tryz.func388 UBY NBH RA0 SA0
inductive UAY where
 |c0 (a b:Int) (d e:Int)
def WBY:UAY->Avm
 |.c0 a b d e=>(tdo Tryz.f390 464,[(0,[.one (.int .u64 a)]),vi 1 b,(5,[.one (.int .u64 d)]),vi 6 e],[])
def TA0 (k:Aw7 UAY Int):Je:=fun a b=>k (.c0 a b 1 0)
def MAm (k:Aw7 UAY Int):Aw7 UAY Int
 |.c0 b c a d=>mk (cond (KZ d c) (k (.c0 b c (Ay8 (a*2)) (NM d))) (cond (Ayy c) (some b) (cond (!(Ayy a)) (cond (!(Ayy (Ay8 ((Ay8 ((9223372036854775808:Int).tdiv a))*2)))) (some (Ay8 ((Ay8 (b*a))+(Ay8 (b.tdiv (Ay8 ((Ay8 ((9223372036854775808:Int).tdiv a))*2))))))) none) none)))
def l9:AzH UAY Int
 |0,_=>none
 |m+1,s=>MAm (l9 m) s
def l7:Je:=TA0 (l9 AY)
def XBY:Avb:=fy u2 l7 AVc wX [] Tryz.func390 WBY MAm TA0 l9
inductive VAY where
 |c0 (d e:(List Int)) (a j:Int) (f:(List Int))
 |c1 (d e:(List Int)) (a g:Int) (f b:(List Int))
 |c2 (d e:(List Int)) (a g:Int) (l n:Int) (f b:(List Int))
 |c3 (a h:Int) (b i:(List Int))
 |c4 (a h o:Int) (b i:(List Int))
def YBY:VAY->Avm
 |.c0 d e a j f=>(tdo Tryz.f389 464,[vr 0 274 d,vr 1 3 e,(2,[.one (.int .u64 a)]),vo 7 496,vi 8 j],[(496,.sl 274 f)])
 |.c1 d e a g f b=>(tdo Tryz.f389 2000,[vr 0 274 d,vr 1 3 e,(2,[.one (.int .u64 a)]),vo 7 496,vo 9 624,vi 10 g],[(496,.sl 274 f),(624,.sl 274 b)])
 |.c2 d e a g l n f b=>(tdo Tryz.f389 256304,[vr 0 274 d,vr 1 3 e,(2,[.one (.int .u64 a)]),vo 7 496,vo 9 624,vi 10 g,(11,[.one (.int .u64 l)]),vi 12 n],[(496,.sl 274 f),(624,.sl 274 b)])
 |.c3 a h b i=>(tdo Tryz.f389 8144,[(2,[.one (.int .u64 a)]),vo 9 624,vo 13 880,vi 14 h],[(624,.sl 274 b),(880,.sl 274 i)])
 |.c4 a h o b i=>(tdo Tryz.f389 521360,[(2,[.one (.int .u64 a)]),vo 9 624,vo 13 880,vi 14 h,vi 15 o],[(624,.sl 274 b),(880,.sl 274 i)])
def UA0 (d:Je) (k:Aw7 VAY (List Int)):ZAi:=fun a b c=>k (.c0 a b c 0 [0,0,0,0,0])
def Ue (a:Je) (k:Aw7 VAY (List Int)):Aw7 VAY (List Int)
 |.c0 c e f b d=>mk (cond (b<5) (cond (Fb b c) (cond (Av1 (b+5) c) (cond (Av1 (b+10) c) (cond (Av1 (b+15) c) (cond (Av1 (b+20) c) (cond (Fb b d) (k (.c0 c e f (NM b) (d.set (Axd b) (Ay8 (Oi AxK (Ay8 (Oi AxK (Ay8 (Oi AxK (Ay8 (Oi AxK (GZ c b) (AzV c (b+5)))) (AzV c (b+10)))) (AzV c (b+15)))) (AzV c (b+20))))))) none) none) none) none) none) none) (k (.c1 c e f 0 d (SV (25:Int)))))
 |.c1 g h e b c f=>mk (cond (b<5) (cond (Ayf (AwL (Ayv (b+4))) (Aw3 c)) (cond (Ayf (AwL (NM b)) (Aw3 c)) ((a (GZ c (AwL (NM b))) 1).bind fun d=>k (.c2 g h e b (Ay8 (Oi AxK (GZ c (AwL (Ayv (b+4)))) d)) 0 c f)) none) none) (k (.c3 e 0 f (SV (25:Int)))))
 |.c2 d e i c h b j f=>mk (cond (b<5) (cond (Av1 (AzG c b) d) (cond (Av1 (AzG c b) e) ((a (Ay8 (Oi AxK (AzV d (AzG c b)) h)) (AzV e (AzG c b))).bind fun g=>cond (Av1 (AzG b (jM c b)) f) (k (.c2 d e i c h (NM b) j (f.set (Ic (AzG b (jM c b))) g))) none) none) none) (k (.c1 d e i (NM c) j f)))
 |.c3 d c e b=>mk (cond (c<5) (k (.c4 d c 0 e b)) (JG (AxR b) (JG (AxR b) (Md (b.set (Axd Qa) (Ay8 (Oi AxK (GZ b Qa) d)))))))
 |.c4 f c b d e=>mk (cond (b<5) (cond (Av1 (AzG c b) d) (cond (Av1 ((AwL (NM c))+(Ayv (5*b))) d) (cond (Av1 ((AwL (Ayv (c+2)))+(Ayv (5*b))) d) (cond (Av1 (AzG c b) e) (k (.c4 f c (NM b) d (e.set (Ic (AzG c b)) (Ay8 (Oi AxK (AzV d (AzG c b)) (Ay8 (QG AxK (Ay8 (18446744073709551615 - (AzV d ((AwL (NM c))+(Ayv (5*b)))))) (AzV d ((AwL (Ayv (c+2)))+(Ayv (5*b))))))))))) none) none) none) none) (k (.c3 f (NM c) d e)))
def Avl:AzH VAY (List Int)
 |0,_=>none
 |m+1,s=>Ue l7 (Avl m) s
def yj:ZAi:=UA0 l7 (Avl AY)
def ZBY:Avb:=fy u3 yj Afm wW [XBY] Tryz.func389 YBY Ue UA0 Avl
inductive YAY where
 |c0 (a:Int) (b d e:(List Int))
def Aop:YAY->Avm
 |.c0 a b d e=>(tdo Tryz.f383 976,[vo 0 48,vo 3 240,vo 4 304,vi 5 a],[(48,.sl 274 b),(240,.sl 3 d),(304,.sl 274 e)])
def VA0 (c d:Azb) (f:ZAi) (k:Aw7 YAY (List Int)):GV:=fun e=>c.bind fun a=>d.bind fun b=>k (.c0 0 e a b)
def WA0 (a b:Azb) (c:ZAi) (k:Aw7 YAY (List Int)):Aw7 YAY (List Int)
 |.c0 d g h e=>mk (cond (d<24) (cond (Fb d e) ((c g h (GZ e d)).bind fun f=>k (.c0 (NM d) f h e)) none) (Md g))
def yw:AzH YAY (List Int)
 |0,_=>none
 |m+1,s=>WA0 LAm yh yj (yw m) s
def mG:GV:=VA0 LAm yh yj (yw AY)
def OBH:Avb:=fy u1 mG wW wW [TBY,VBY,ZBY] Tryz.func383 Aop WA0 VA0 yw
inductive ACp where
 |c0 (a:(List Int)) (b:Int) (d:(List Int))
 |c1 (a:(List Int)) (b e f:Int) (d:(List Int))
def BBZ:ACp->Avm
 |.c0 a b d=>(tdo Tryz.f384 464,[vr 0 274 a,vo 3 240,vi 4 b],[(240,.sl 5 d)])
 |.c1 a b e f d=>(tdo Tryz.f384 59696,[vr 0 274 a,vo 3 240,vi 4 b,(5,[.one (.int .u64 e)]),vi 6 f],[(240,.sl 5 d)])
def XA0 (k:Aw7 ACp AA):Avk:=fun a=>k (.c0 a 0 [])
def mM (k:Aw7 ACp AA):Aw7 ACp AA
 |.c0 b a c=>mk (cond (KZ a (Aw3 b)) (cond (Fb a b) (k (.c1 b a (GZ b a) 0 c)) none) (AxU c))
 |.c1 c d e b a=>mk (cond (b<8) (cond (OW a) (k (.c1 c d (Ay8 (e.tdiv 256)) (NM b) (a++[w8 (e.tmod 256)]))) none) (k (.c0 c (NM d) a)))
def XM:AzH ACp AA
 |0,_=>none
 |m+1,s=>mM (XM m) s
def mJ:Avk:=XA0 (XM AY)
def PBH:Avb:=fy u1 mJ Afn Cc [] Tryz.func384 BBZ mM XA0 XM
inductive BAZ where
 |c0 (a:Int) (b d:(List Int))
 |c1 (a e:Int) (b d:(List Int))
 |c2 (a e f:Int) (b d g:(List Int))
def CBZ:BAZ->Avm
 |.c0 a b d=>(tdo Tryz.f372 480,[vi 1 a,vo 7 496,vo 8 560],[(496,.sl 274 b),(560,.sl 5 d)])
 |.c1 a e b d=>(tdo Tryz.f372 4048,[vi 1 a,vo 7 496,vo 8 560,vi 9 e],[(496,.sl 274 b),(560,.sl 5 d)])
 |.c2 a e f b d g=>(tdo Tryz.f372 1036880,[vi 1 a,vo 7 496,vo 8 560,vi 9 e,vo 10 688,vi 11 f],[(496,.sl 274 b),(560,.sl 5 d),(688,.sl 274 g)])
def YA0 (d:Ayz) (e:GV) (f:Avk) (k:Aw7 BAZ AA):uf:=fun a b c=>mk (cond (Q5 a) (cond (OW (AzB a)) (k (.c0 b (SV (25:Int)) ((AzB a)++[c]))) none) none)
def Y1 (a:Ayz) (b:GV) (c:Avk) (k:Aw7 BAZ AA):Aw7 BAZ AA
 |.c0 e f d=>mk (cond (!(Ayy e)) (cond (((Aw3 d).tmod e) != 0) (cond (OW d) (k (.c0 e f (d++[Qa]))) none) (cond (Av1 ((Aw3 d) - 1) d) (cond (Av1 ((Aw3 d) - 1) d) (k (.c1 e 0 f (IAw d))) none) none)) none)
 |.c1 f d h e=>mk (cond (KZ d (Aw3 e)) (cond (Om d (AxZ d f) (Aw3 e)) ((a (ofBytes ((e.drop (Axd d)).take ((Ic (d+f)) - (Axd d))))).bind fun g=>k (.c2 f d 0 h e g)) none) (Ax9 (c h)))
 |.c2 g h d e i f=>mk (cond (KZ d (Aw3 f)) (cond (Fb d e) (cond (Fb d f) (cond (Fb d e) (k (.c2 g h (NM d) (e.set (Axd d) (Ay8 (Oi AxK (GZ e d) (GZ f d)))) i f)) none) none) none) ((b e).bind fun j=>k (.c1 g (AxZ h g) j i)))
def P7:AzH BAZ AA
 |0,_=>none
 |m+1,s=>Y1 lu mG mJ (P7 m) s
def y5:uf:=YA0 lu mG mJ (P7 AY)
def DBZ:Avb:=fy u3 y5 AVd Cc [KBH,OBH,PBH] Tryz.func372 CBZ Y1 YA0 P7
def ZA0 (b:uf):Ayu:=fun c=>(b c 168 31).bind fun a=>some ⟨a,0⟩
def mW:Ayu:=ZA0 y5
def QBH:Avb:=BI u1 mW Cc AVe [DBZ] Tryz.func348 ZA0
def AMw (d:Ayz) (e:GV) (f:Avk):AwT:=fun a=>mk (cond ((Awq a) != 200) (some a) ((d a).bind fun b=>(e b).bind fun c=>Ax9 (f c)))
def y7:AwT:=AMw lu mG mJ
def EBZ:Avb:=BI u1 y7 Cc Cc [KBH,OBH,PBH] Tryz.func373 AMw
inductive EAZ where
 |c0 (a:Int) (b d:F6) (e:(List Int))
def FBZ:EAZ->Avm
 |.c0 d a b e=>(tdo Tryz.f349 480,[vi 1 d,vp 2 128,vp 4 256,vo 6 432],[(128,.var [.str a.F7,li a.ER]),(256,.var [.str b.F7,li b.ER]),(432,.sl 5 e)])
def BA1 (c:Va) (f:AwT) (k:Aw7 EAZ (F6×AA)):WX:=fun a d=>mk ((c d 0 4000).bind fun b=>cond (!b) (some (a,Awp)) (cond ((Awq a.F7) != 200) (some (a,Awp)) ((c a.ER 0 168).bind fun e=>cond (!e) (some (a,Awp)) (k (.c0 d a ⟨Awp,0⟩ [])))))
def CA1 (a:Va) (b:AwT) (k:Aw7 EAZ (F6×AA)):Aw7 EAZ (F6×AA)
 |.c0 e c g d=>mk (cond (KZ (Aw3 d) e) (cond (c.ER == 168) ((b c.F7).bind fun f=>cond (Ayt Nk (Aw9 e (Aw3 d))) (cond (((decide (Qa<=Qa)) && (Av7 (Ayv (0+(Aw9 e (Aw3 d)))))) && (Av2 (Ayv (0+(Aw9 e (Aw3 d)))) (Awq f))) (cond (Q5 (Vj f Qa (0+(Aw9 e (Aw3 d))))) (cond (vF d (Vj f Qa (0+(Aw9 e (Aw3 d))))) (k (.c0 e ⟨f,Ayv (0+(Aw9 e (Aw3 d)))⟩ g (d++(AzB (Vj f Qa (0+(Aw9 e (Aw3 d)))))))) none) none) none) (cond (((decide (Qa<=Qa)) && (Av7 (Ayv (0+Nk)))) && (Av2 (Ayv (0+Nk)) (Awq f))) (cond (Q5 (Vj f Qa (0+Nk))) (cond (vF d (Vj f Qa (0+Nk))) (k (.c0 e ⟨f,Ayv (0+Nk)⟩ g (d++(AzB (Vj f Qa (0+Nk)))))) none) none) none)) (cond (Ayt (QL c) (Aw9 e (Aw3 d))) (cond (Om c.ER (AxZ c.ER (Aw9 e (Aw3 d))) (Awq c.F7)) (cond (Q5 (Vj c.F7 c.ER (c.ER+(Aw9 e (Aw3 d))))) (cond (vF d (Vj c.F7 c.ER (c.ER+(Aw9 e (Aw3 d))))) (k (.c0 e ⟨c.F7,AxZ c.ER (Aw9 e (Aw3 d))⟩ g (d++(AzB (Vj c.F7 c.ER (c.ER+(Aw9 e (Aw3 d)))))))) none) none) none) (cond (Om c.ER (AxZ c.ER (QL c)) (Awq c.F7)) (cond (Q5 (Vj c.F7 c.ER (c.ER+(QL c)))) (cond (vF d (Vj c.F7 c.ER (c.ER+(QL c)))) (k (.c0 e ⟨c.F7,AxZ c.ER (QL c)⟩ g (d++(AzB (Vj c.F7 c.ER (c.ER+(QL c))))))) none) none) none))) (some (c,ofBytes d)))
def mX:AzH EAZ (F6×AA)
 |0,_=>none
 |m+1,s=>CA1 AzN y7 (mX m) s
def dw:WX:=BA1 AzN y7 (mX AY)
def RBH:Avb:=fy u2 dw AVf AVg [AzY,EBZ] Tryz.func349 FBZ CA1 BA1 mX
inductive FAZ where
 |c0 (b:AA) (d:Int) (e:F6) (a:(List Int))
 |c1 (a:(List Int))
def GBZ:FAZ->Avm
 |.c0 d e b a=>(tdo Tryz.f317 2000,[vo 7 496,vp 8 512,vs 9 d,vi 10 e],[(512,.var [.str b.F7,li b.ER]),(496,.sl 3 a)])
 |.c1 a=>(tdo Tryz.f317 2016,[vo 7 496],[(496,.sl 3 a)])
def DA1 (d:AzI) (h:Ayu) (i:WX) (k:Aw7 FAZ (List Int)):aA:=fun b f g=>mk ((d f).bind fun a=>cond (LZ b a) ((d g).bind fun c=>cond (Awg b a c) ((h ((b++a)++c)).bind fun e=>k (.c0 Awp 0 e [])) none) none)
def NAm (a:AzI) (b:Ayu) (c:WX) (k:Aw7 FAZ (List Int)):Aw7 FAZ (List Int)
 |.c0 g d h f=>mk (cond (d<4000) (cond (AyO (Aw3 f)) (cond (Ayy (Nh d)) ((c h 168).bind fun e=>cond (Ayf (Nh d) (Awq e.2)) (cond (Ayf (NM (Nh d)) (Awq e.2)) (cond (Ayf (NM (Nh d)) (Awq e.2)) (cond (Ayf (Ayv ((Nh d)+2)) (Awq e.2)) (cond (aV (jC e d)) (cond (PD f) (cond (aV (MAV e d)) (cond (AyO (Aw3 (f++[jC e d]))) (cond (PD (f++[jC e d])) (k (.c0 e.2 (NM d) e.1 ((f++[jC e d])++[MAV e d]))) none) (k (.c0 e.2 (NM d) e.1 (f++[jC e d])))) (k (.c0 e.2 (NM d) e.1 (f++[jC e d])))) none) (cond (aV (MAV e d)) (cond (AyO (Aw3 f)) (cond (PD f) (k (.c0 e.2 (NM d) e.1 (f++[MAV e d]))) none) (k (.c0 e.2 (NM d) e.1 f))) (k (.c0 e.2 (NM d) e.1 f)))) none) none) none) none) (cond (Ayf (Nh d) (Awq g)) (cond (Ayf (NM (Nh d)) (Awq g)) (cond (Ayf (NM (Nh d)) (Awq g)) (cond (Ayf (Ayv ((Nh d)+2)) (Awq g)) (cond (aV (jE g d)) (cond (PD f) (cond (aV (NAV g d)) (cond (AyO (Aw3 (f++[jE g d]))) (cond (PD (f++[jE g d])) (k (.c0 g (NM d) h ((f++[jE g d])++[NAV g d]))) none) (k (.c0 g (NM d) h (f++[jE g d])))) (k (.c0 g (NM d) h (f++[jE g d])))) none) (cond (aV (NAV g d)) (cond (AyO (Aw3 f)) (cond (PD f) (k (.c0 g (NM d) h (f++[NAV g d]))) none) (k (.c0 g (NM d) h f))) (k (.c0 g (NM d) h f)))) none) none) none) none)) (k (.c1 f))) (k (.c1 f)))
 |.c1 d=>mk (cond (AyO (Aw3 d)) (cond (PD d) (k (.c1 (d++[Qa]))) none) (Md d))
def Axi:AzH FAZ (List Int)
 |0,_=>none
 |m+1,s=>NAm Awm mW dw (Axi m) s
def XO:aA:=DA1 Awm mW dw (Axi AY)
def HBZ:Avb:=fy u3 XO wR JZ [YL,QBH,RBH] Tryz.func317 GBZ NAm DA1 Axi
inductive GAZ where
 |c0 (a:AA) (b:Int) (d:(List (List Int)))
 |c1 (a:AA) (b e:Int) (d:(List (List Int)))
def IBZ:GAZ->Avm
 |.c0 a b d=>(tdo Tryz.f277 464,[vs 0 a,vo 3 240,vi 4 b],[(240,.sl 37 d)])
 |.c1 a b e d=>(tdo Tryz.f277 29840,[vs 0 a,vo 3 240,vi 4 b,vi 5 e],[(240,.sl 37 d)])
def EA1 (b:aA) (k:Aw7 GAZ (List (List Int))):AJc:=fun a=>k (.c0 a 0 [])
def FA1 (a:aA) (k:Aw7 GAZ (List (List Int))):Aw7 GAZ (List (List Int))
 |.c0 d b c=>mk (cond (U5 b) (k (.c1 d b 0 c)) (some c))
 |.c1 c d b e=>mk (cond (U5 b) ((a c b d).bind fun f=>cond (YG e) (k (.c1 c d (NM b) (e++[f]))) none) (k (.c0 c (NM d) e)))
def OAm:AzH GAZ (List (List Int))
 |0,_=>none
 |m+1,s=>FA1 XO (OAm m) s
def y8:AJc:=EA1 XO (OAm AY)
def JBZ:Avb:=fy u1 y8 Cc AEd [HBZ] Tryz.func277 IBZ FA1 EA1 OAm
def GA1 (e:Va) (f:Ayu) (h:WX):aB:=fun g b=>mk ((e b 0 4000).bind fun a=>cond (!a) (MZ (Awp,false)) ((f g).bind fun c=>(h c b).bind fun d=>MZ (d.2,true)))
def mZ:aB:=GA1 AzN mW dw
def KBZ:Avb:=BI u2 mZ Q9 IQ [AzY,QBH,RBH] Tryz.func321 GA1
inductive IAZ where
 |c0 (a:AA) (b:Int) (d:(List Int))
def LBZ:IAZ->Avm
 |.c0 a b d=>(tdo Tryz.f279 976,[vo 5 368,vs 6 a,vi 8 b],[(368,.sl 3 d)])
def IA1 (d:AzI) (f:aB) (k:Aw7 IAZ (List Int)):Aw2:=fun b e=>mk ((d e).bind fun a=>cond (LZ b a) ((f (b++a) 128).bind fun c=>k (.c0 c.1 0 [])) none)
def JA1 (a:AzI) (b:aB) (k:Aw7 IAZ (List Int)):Aw7 IAZ (List Int)
 |.c0 d c e=>mk (cond (AyO c) (cond (Ayf (Av5 c) (Awq d)) (cond (PK c) (cond (PD e) (k (.c0 d (NM c) (e++[(NAw (jL (Vk d (Av5 c))) (Av5 (jL (Vk d (Av5 c))))).tmod 3329]))) none) (cond (PD e) (k (.c0 d (NM c) (e++[(NAw (Vk d (Av5 c)) (Av5 (Vk d (Av5 c)))).tmod 3329]))) none)) none) (Md e))
def mg:AzH IAZ (List Int)
 |0,_=>none
 |m+1,s=>JA1 Awm mZ (mg m) s
def XP:Aw2:=IA1 Awm mZ (mg AY)
def MBZ:Avb:=fy u2 XP Q9 JZ [YL,KBZ] Tryz.func279 LBZ JA1 IA1 mg
inductive JAZ where
 |c0 (a:(List Int)) (b:Int)
def NBZ:JAZ->Avm
 |.c0 a b=>(tdo Tryz.f318 464,[vr 0 3 a,vi 3 b],[])
def KA1 (b:Va) (k:Aw7 JAZ Bool):Nc:=fun a=>mk (cond ((Aw3 a) != 256) (some false) (k (.c0 a 0)))
def PAm (a:Va) (k:Aw7 JAZ Bool):Aw7 JAZ Bool
 |.c0 c b=>mk (cond (KZ b (Aw3 c)) (cond (Fb b c) ((a (GZ c b) 0 3328).bind fun d=>cond (!d) (some false) (k (.c0 c (NM b)))) none) (some true))
def nD:AzH JAZ Bool
 |0,_=>none
 |m+1,s=>PAm AzN (nD m) s
def Vm:Nc:=KA1 AzN (nD AY)
def QAm:Avb:=fy u1 Vm Wn E8 [AzY] Tryz.func318 NBZ PAm KA1 nD
inductive KAZ where
 |c0 (a b d:Int)
def OBZ:KAZ->Avm
 |.c0 a b d=>(tdo Tryz.f320 2000,[vi 0 a,vi 3 b,vi 4 d],[])
def LA1 (k:Aw7 KAZ Int):Ay4:=fun a=>mk (cond (Ayn (a.tmod 128)) (k (.c0 (Ayv ((a.tmod 128)+128)) 0 0)) (k (.c0 (a.tmod 128) 0 0)))
def MA1 (k:Aw7 KAZ Int):Aw7 KAZ Int
 |.c0 b c a=>mk (cond (a<7) (k (.c0 (Av5 b) (AxZ (Ayv (2*c)) (b.tmod 2)) (NM a))) (some c))
def y9:AzH KAZ Int
 |0,_=>none
 |m+1,s=>MA1 (y9 m) s
def eF:Ay4:=LA1 (y9 AY)
def SBH:Avb:=fy u1 eF FN FN [] Tryz.func320 OBZ MA1 LA1 y9
inductive MAZ where
 |c0 (a b d:Int)
def PBZ:MAZ->Avm
 |.c0 a b d=>(tdo Tryz.f319 2016,[vi 0 a,vi 1 b,vi 5 d],[])
def NA1 (d:Va) (k:Aw7 MAZ Int):Je:=fun b a=>mk ((d a 0 1000000000).bind fun c=>cond (!c) (some 0) (cond (Ayn (b.tmod 3329)) (k (.c0 (Ayv ((b.tmod 3329)+3329)) a 1)) (k (.c0 (b.tmod 3329) a 1))))
def OA1 (a:Va) (k:Aw7 MAZ Int):Aw7 MAZ Int
 |.c0 b c d=>mk (cond (AzC c) (cond (PK c) (k (.c0 (aJ (b*b)) (Av5 c) (jD d b))) (k (.c0 (aJ (b*b)) (Av5 c) d))) (some d))
def zA:AzH MAZ Int
 |0,_=>none
 |m+1,s=>OA1 AzN (zA m) s
def eG:Je:=NA1 AzN (zA AY)
def TBH:Avb:=fy u2 eG wP FN [AzY] Tryz.func319 PBZ OA1 NA1 zA
inductive OAZ where
 |c0 (a b:Int) (d:(List Int))
 |c1 (a b e:Int) (d:(List Int))
 |c2 (a b:Int) (e f g:Int) (d:(List Int))
def QBZ:OAZ->Avm
 |.c0 a b d=>(tdo Tryz.f278 2000,[vo 3 240,vi 4 a,vi 5 b],[(240,.sl 3 d)])
 |.c1 a b e d=>(tdo Tryz.f278 128144,[vo 3 240,vi 4 a,vi 5 b,vi 6 e],[(240,.sl 3 d)])
 |.c2 a b e f g d=>(tdo Tryz.f278 32805488,[vo 3 240,vi 4 a,vi 5 b,vi 6 e,vi 7 f,vi 8 g],[(240,.sl 3 d)])
def PA1 (c:Nc) (d:Ay4) (e:Je) (k:Aw7 OAZ (List Int)):GV:=fun a=>mk ((c a).bind fun b=>cond (!b) (Md []) (cond (FC ((0+a.length)*8)) (k (.c0 1 128 a)) none))
def eH (a:Nc) (b:Ay4) (c:Je) (k:Aw7 OAZ (List Int)):Aw7 OAZ (List Int)
 |.c0 f d e=>mk (cond (d>=2) (k (.c1 f d 0 e)) (Md e))
 |.c1 e h d i=>mk (cond (AyO d) ((b e).bind fun f=>(c 17 f).bind fun g=>k (.c2 (NM e) h d g d i)) (k (.c0 e (Av5 h) i)))
 |.c2 i e h g d f=>mk (cond (KZ d (AxZ h e)) (cond (Av1 (d+e) f) (cond (Fb d f) (cond (Av1 (d+e) f) (cond (Fb d (JAV f d e g)) (cond (Fb d (JAV f d e g)) (k (.c2 i e h g (NM d) ((JAV f d e g).set (Axd d) ((AxZ (GZ (JAV f d e g) d) (jD g (AzV f (d+e)))).tmod 3329)))) none) none) none) none) none) (k (.c1 i e (AxZ h (Ayv (2*e))) f)))
def Ax1:AzH OAZ (List Int)
 |0,_=>none
 |m+1,s=>eH Vm eF eG (Ax1 m) s
def Y2:GV:=PA1 Vm eF eG (Ax1 AY)
def UBH:Avb:=fy u1 Y2 Wn JZ [QAm,SBH,TBH] Tryz.func278 QBZ eH PA1 Ax1
inductive PAZ where
 |c0 (a b d:Int)
def RBZ:PAZ->Avm
 |.c0 a b d=>(tdo Tryz.f350 464,[vi 0 a,vi 3 b,vi 4 d],[])
def QA1 (k:Aw7 PAZ Int):Ay4:=fun a=>k (.c0 a 1 0)
def RAm (k:Aw7 PAZ Int):Aw7 PAZ Int
 |.c0 b c a=>mk (cond (KZ a b) (k (.c0 b (Ayv (2*c)) (NM a))) (some c))
def nG:AzH PAZ Int
 |0,_=>none
 |m+1,s=>RAm (nG m) s
def Y3:Ay4:=QA1 (nG AY)
def SBZ:Avb:=fy u1 Y3 FN FN [] Tryz.func350 RBZ RAm QA1 nG
inductive QAZ where
 |c0 (a:(List Int)) (b h:Int)
 |c1 (a:(List Int)) (b d:Int) (e f:Int) (g:(List Int))
 |c2 (a:(List Int)) (b d:Int) (e f:Int) (g:(List Int))
def TBZ:QAZ->Avm
 |.c0 a b h=>(tdo Tryz.f322 464,[vr 0 3 a,vi 1 b,vi 6 h],[])
 |.c1 a b d e f g=>(tdo Tryz.f322 8144,[vr 0 3 a,vi 1 b,vo 7 496,vi 8 d,vi 9 e,vi 10 f],[(496,.sl 5 g)])
 |.c2 a b d e f g=>(tdo Tryz.f322 1042736,[vr 0 3 a,vi 1 b,vo 7 496,vi 8 d,vi 9 e,vi 10 f],[(496,.sl 5 g)])
def RA1 (c:Va) (e:Ay4) (k:Aw7 QAZ (AA×Bool)):LAv:=fun d b=>mk ((c b 1 12).bind fun a=>cond (!a) (MZ (Awp,false)) (k (.c0 d b 0)))
def Avc (a:Va) (b:Ay4) (k:Aw7 QAZ (AA×Bool)):Aw7 QAZ (AA×Bool)
 |.c0 c e d=>mk (cond (KZ d (Aw3 c)) (cond (Fb d c) ((b e).bind fun f=>(a (GZ c d) 0 (AyV f)).bind fun g=>cond (!g) (MZ (Awp,false)) (k (.c0 c e (NM d)))) none) (k (.c1 c e 0 0 0 [])))
 |.c1 d h i f c e=>mk (cond (KZ c (Aw3 d)) (cond (Fb c d) ((b f).bind fun g=>k (.c2 d h (AxZ i (Ayv ((GZ d c)*g))) (AxZ f h) c e)) none) (cond (AzC f) (FK (OW e) (MZ (ofBytes (e++[w8 i]),true))) (MZ (ofBytes e,true))))
 |.c2 f g e c h d=>mk (cond (c>=8) (cond (OW d) (k (.c2 f g (Ayv (e.tdiv 256)) (Ayv (c - 8)) h (d++[w8 (e.tmod 256)]))) none) (k (.c1 f g e c (NM h) d)))
def Awe:AzH QAZ (AA×Bool)
 |0,_=>none
 |m+1,s=>Avc AzN Y3 (Awe m) s
def SAm:LAv:=RA1 AzN Y3 (Awe AY)
def UBZ:Avb:=fy u2 SAm wQ IQ [AzY,SBZ] Tryz.func322 TBZ Avc RA1 Awe
def SA1 (d:Nc) (e:LAv):Avk:=fun b=>mk ((d b).bind fun a=>cond (!a) AzP ((e b 12).bind fun c=>some c.1))
def eP:Avk:=SA1 Vm SAm
def VBZ:Avb:=BI u1 eP Wn Cc [QAm,UBZ] Tryz.func280 SA1
inductive RAZ where
 |c0 (a b:(List Int)) (d:Int) (e:(List Int))
def WBZ:RAZ->Avm
 |.c0 a b d e=>(tdo Tryz.f323 976,[vr 0 3 a,vr 1 3 b,vo 5 368,vi 6 d],[(368,.sl 3 e)])
def TA1 (b:Nc) (f:Ay4) (g:Je) (k:Aw7 RAZ (List Int)):Uk:=fun c e=>mk ((b c).bind fun a=>cond (!a) (Md []) ((b e).bind fun d=>cond (!d) (Md []) (k (.c0 c e 0 []))))
def UA1 (a:Nc) (b:Ay4) (c:Je) (k:Aw7 RAZ (List Int)):Aw7 RAZ (List Int)
 |.c0 e f d g=>mk (cond (d<128) ((b d).bind fun h=>(c 17 (Axq h)).bind fun i=>cond (Ayf (Axq d) (Aw3 e)) (cond (Ayf (Axq d) (Aw3 f)) (cond (Av1 (2*d) e) (cond (Av1 (2*d) f) (cond (Av1 (2*d) e) (cond (Ayf (Axq d) (Aw3 f)) (cond (Ayf (Axq d) (Aw3 e)) (cond (Av1 (2*d) f) (cond (FC ((g.length+2)*8)) (k (.c0 e f (NM d) (g++[(OU ((AzV e (2*d))*(AzV f (2*d))) ((jD (GZ e (Axq d)) (GZ f (Axq d)))*i)).tmod 3329,(OU ((AzV e (2*d))*(GZ f (Axq d))) ((GZ e (Axq d))*(AzV f (2*d)))).tmod 3329]))) none) none) none) none) none) none) none) none) none) (Md g))
def nH:AzH RAZ (List Int)
 |0,_=>none
 |m+1,s=>UA1 Vm eF eG (nH m) s
def zB:Uk:=TA1 Vm eF eG (nH AY)
def XBZ:Avb:=fy u2 zB bK JZ [QAm,SBH,TBH] Tryz.func323 WBZ UA1 TA1 nH
inductive TAZ where
 |c0 (a b:(List Int)) (d:Int) (e:(List Int))
def YBZ:TAZ->Avm
 |.c0 a b d e=>(tdo Tryz.f281 464,[vr 0 3 a,vr 1 3 b,vo 5 368,vi 6 d],[(368,.sl 3 e)])
def VA1 (c:Nc) (k:Aw7 TAZ (List Int)):Uk:=fun a b=>k (.c0 a b 0 [])
def WA1 (a:Nc) (k:Aw7 TAZ (List Int)):Aw7 TAZ (List Int)
 |.c0 d e b c=>mk (cond (AyO b) ((a d).bind fun f=>cond f ((a e).bind fun g=>cond g (cond (Fb b d) (cond (Fb b e) (cond (PD c) (k (.c0 d e (NM b) (c++[(AxZ (GZ d b) (GZ e b)).tmod 3329]))) none) none) none) (Md c)) (Md c)) (Md c))
def nI:AzH TAZ (List Int)
 |0,_=>none
 |m+1,s=>WA1 Vm (nI m) s
def Y4:Uk:=VA1 Vm (nI AY)
def VBH:Avb:=fy u2 Y4 bK JZ [QAm] Tryz.func281 YBZ WA1 VA1 nI
inductive UAZ where
 |c0 (a:(List (List Int))) (b:(List (List Int))) (d:Int) (e:(List Int))
def ZBZ:UAZ->Avm
 |.c0 a b d e=>(tdo Tryz.f282 464,[vr 0 37 a,vr 1 37 b,vo 5 368,vi 6 d],[(368,.sl 3 e)])
def XA1 (c d:Uk) (k:Aw7 UAZ (List Int)):Tt:=fun a b=>mk (k (.c0 a b 0 YI))
def TAm (a b:Uk) (k:Aw7 UAZ (List Int)):Aw7 UAZ (List Int)
 |.c0 d e c h=>mk (cond (Av9 c d.length) (cond (Fa c d.length) (cond (Fa c e.length) ((a (d.getD (Axd c) []) (e.getD (Axd c) [])).bind fun f=>(b h f).bind fun g=>k (.c0 d e (NM c) g)) none) none) (Md h))
def nJ:AzH UAZ (List Int)
 |0,_=>none
 |m+1,s=>TAm zB Y4 (nJ m) s
def Vo:Tt:=XA1 zB Y4 (nJ AY)
def WBH:Avb:=fy u2 Vo AUj JZ [XBZ,VBH] Tryz.func282 ZBZ TAm XA1 nJ
inductive VAZ where
 |c0 (a b:AA) (d e f:AA) (j:Int) (g:Ky) (h:(List (List Int))) (i:(List (List Int)))
 |c1 (a b:AA) (d e f:AA) (l:Int) (g:Ky) (h:(List (List Int))) (i:(List (List Int)))
def ApF:VAZ->Avm
 |.c0 b d e f g j a h i=>(tdo Tryz.f246 65488,[vp 2 128,vs 4 b,vs 5 d,vs 6 e,vo 7 496,vo 8 560,vs 9 f,vs 10 g,vi 11 j],[(128,.var [.str a.bH,.str a.bI]),(496,.sl 37 h),(560,.sl 37 i)])
 |.c1 b d e f g l a h i=>(tdo Tryz.f246 131024,[vp 2 128,vs 4 b,vs 5 d,vs 6 e,vo 7 496,vo 8 560,vs 9 f,vs 10 g,vi 13 l],[(128,.var [.str a.bH,.str a.bI]),(496,.sl 37 h),(560,.sl 37 i)])
def YA1 (b:AwT) (g:AJc) (h:Aw2) (i:GV) (j:Avk) (l:Tt) (m:Uk) (k:Aw7 VAZ (Ky×Bool)):aC:=fun d=>mk (cond ((Awq d) != 32) (some (⟨Awp,Awp⟩,false)) ((b d).bind fun a=>cond (LZ a (Ax6 ⟨#[114]⟩)) ((b (a++(Ax6 ⟨#[114]⟩))).bind fun c=>cond (LZ a (Ax6 ⟨#[115]⟩)) ((b (a++(Ax6 ⟨#[115]⟩))).bind fun e=>(g c).bind fun f=>k (.c0 a c e Awp Awp 0 ⟨Awp,Awp⟩ f [])) none) none))
def Y5 (a:AwT) (b:AJc) (c:Aw2) (d:GV) (e:Avk) (f:Tt) (g:Uk) (k:Aw7 VAZ (Ky×Bool)):Aw7 VAZ (Ky×Bool)
 |.c0 p q i r n h s t l=>mk (cond (U5 h) ((c i h).bind fun o=>(d o).bind fun j=>cond (YG l) ((e j).bind fun m=>cond (LZ n m) (k (.c0 p q i r (n++m) (NM h) s t (l++[j]))) none) none) (k (.c1 p q i r n 0 s t l)))
 |.c1 p j u h l i x n s=>mk (cond (U5 i) (cond (Om (Ayv (i*2)) (Ayv ((Ayv (i*2))+2)) (n.length:Int)) ((f ((n.drop (Ic (i*2))).take ((Ic ((Ayv (i*2))+2)) - (Ic (i*2)))) s).bind fun r=>(c u (Ayv (2+i))).bind fun t=>(d t).bind fun v=>(g r v).bind fun w=>(e w).bind fun o=>cond (LZ h o) (k (.c1 p j u (h++o) l (NM i) x n s)) none) none) (cond (LZ h j) (cond (LZ l (h++j)) ((a (h++j)).bind fun m=>cond (Awg l (h++j) m) (cond (LZ p (Ax6 ⟨#[122]⟩)) ((a (p++(Ax6 ⟨#[122]⟩))).bind fun q=>cond (Awg (l++(h++j)) m q) (some (⟨h++j,((l++(h++j))++m)++q⟩,true)) none) none) none) none) none))
def XQ:AzH VAZ (Ky×Bool)
 |0,_=>none
 |m+1,s=>Y5 Jt y8 XP Y2 eP Vo Y4 (XQ m) s
def zC:aC:=YA1 Jt y8 XP Y2 eP Vo Y4 (XQ AY)
def XBH:Avb:=fy u1 zC Cc AUk [Ayr,JBZ,MBZ,UBH,VBZ,WBH,VBH] Tryz.func246 ApF Y5 YA1 XQ
def ZA1:ug:=fun _=>none
def BBa:Avb:=fs u1 ZA1 Cc AUl 351
def ATT:Aw2:=fun _ _=>none
def CBa:Avb:=fs u2 ATT Q9 JZ 352
def BA2:GV:=fun _=>none
def DBa:Avb:=fs u1 BA2 Wn JZ 354
def CA2:Uk:=fun _ _=>none
def EBa:Avb:=fs u2 CA2 bK JZ 353
inductive XAZ where
 |c0 (a:AA) (b:Int) (d:(List (List Int))) (e:(List (List Int)))
def FBa:XAZ->Avm
 |.c0 a b d e=>(tdo Tryz.f324 4048,[vs 1 a,vo 6 432,vo 8 560,vi 9 b],[(432,.sl 37 d),(560,.sl 37 e)])
def DA2 (d:ug) (e:Aw2) (f:GV) (g:Tt) (h:GV) (i:Uk) (k:Aw7 XAZ (List Int×Bool)):uh:=fun b c=>mk (cond ((Awq b) != 1632) (some ([],false)) (cond ((Awq c) != 768) (some ([],false)) ((d b).bind fun a=>cond (!a.2) (some ([],false)) (k (.c0 c 0 a.1 [])))))
def YBH (a:ug) (b:Aw2) (c:GV) (d:Tt) (e:GV) (f:Uk) (k:Aw7 XAZ (List Int×Bool)):Aw7 XAZ (List Int×Bool)
 |.c0 h g m i=>mk (cond (U5 g) (cond (Om (Ayv (g*320)) (Ayv ((NM g)*320)) (Awq h)) ((b (h.extract (Ic (g*320)) (Ic ((NM g)*320))) 10).bind fun j=>(c j).bind fun l=>cond (YG i) (k (.c0 h (NM g) m (i++[l]))) none) none) (cond ((Av2 Qa (640:Int)) && (decide (640<=(Awq h)))) ((b (QJ h (640:Int)) 4).bind fun n=>(d m i).bind fun o=>(e o).bind fun p=>(f n p).bind fun q=>some (q,true)) none))
def EA2:AzH XAZ (List Int×Bool)
 |0,_=>none
 |m+1,s=>YBH ZA1 ATT Y2 Vo BA2 CA2 (EA2 m) s
def FA2:uh:=DA2 ZA1 ATT Y2 Vo BA2 CA2 (EA2 AY)
def GBa:Avb:=fy u2 FA2 KJ AKk [BBa,CBa,UBH,WBH,DBa,EBa] Tryz.func324 FBa YBH DA2 EA2
def ZBH:uj:=fun _ _=>none
def HBa:Avb:=fs u2 ZBH wQ Cc 325
def GA2 (c:uh) (f:uj):AxO:=fun d e=>mk ((c d e).bind fun a=>cond (!a.2) (MZ (Awp,false)) ((f a.1 1).bind fun b=>MZ (b,true)))
def IA2:AxO:=GA2 FA2 ZBH
def IBa:Avb:=BI u2 IA2 KJ IQ [GBa,HBa] Tryz.func283 GA2
def BBI:BAj:=fun _ _=>none
def JBa:Avb:=fs u2 BBI KJ AUm 284
def JA2 (h:AxO) (i:BAj) (f:AwT):AxO:=fun a b=>mk ((h a b).bind fun d=>cond (!d.2) (MZ (Awp,false)) (FK (MAw a) ((i (a.extract (Axd (768:Int)) (Axd (1568:Int))) d.1).bind fun c=>cond c.2.2 (cond (Aww c.1 b) (MZ (c.2.1,true)) (FK (Hf (Ayv ((Awq a) - 32)) (Awq a)) (FK (LZ (QAV a) b) ((f ((QAV a)++b)).bind fun e=>MZ (e,true))))) (FK (Hf (Ayv ((Awq a) - 32)) (Awq a)) (FK (LZ (QAV a) b) ((f ((QAV a)++b)).bind fun g=>MZ (g,true)))))))
def nK:AxO:=JA2 IA2 BBI Jt
def KBa:Avb:=BI u2 nK KJ IQ [IBa,JBa,Ayr] Tryz.func247 JA2
def KA2 (e:AwZ):um:=fun a c b=>mk ((e a).bind fun d=>cond (!d) (some (⟨0,0,false,false,false,false,Awp,0⟩,false)) (cond (AzT a) (cond (!c) (some (⟨0,0,false,false,false,false,Awp,0⟩,false)) (cond (Awk a) (cond (!b) (some (⟨0,0,false,false,false,false,Awp,0⟩,false)) (some (X9 a c b,true))) (some (X9 a c b,true)))) (cond (Awk a) (cond (!b) (some (⟨0,0,false,false,false,false,Awp,0⟩,false)) (some (X9 a c b,true))) (some (X9 a c b,true)))))
def UAm:um:=KA2 Xq
def LBa:Avb:=BI u3 UAm AUn Yb [HAW] Tryz.func248 KA2
def LA2 (b:AwT):AwT:=fun a=>mk (AxL (LZ a QK) (Ax9 (b (a++QK))))
def VAm:AwT:=LA2 yP
def MBa:Avb:=BI u1 VAm Cc Cc [JBH] Tryz.func285 LA2
def MA2 (d:AwZ) (e:aC) (f:AwT):uo:=fun a=>mk ((d a).bind fun b=>cond (!b) AzP (cond ((Nb a) == 1) ((e (Oc a)).bind fun c=>some c.1.bH) (cond ((Nb a) == 2) (Ax9 (f (Oc a))) AzP)))
def WAm:uo:=MA2 Xq zC VAm
def NBa:Avb:=BI u1 WAm S9 Cc [HAW,XBH,MBa] Tryz.func249 MA2
def NA2 (e:uO) (d:iy) (t:Tq) (u:Td) (v:WU) (w:AxO) (x:aC) (y:AxO) (c:iw) (z:um) (A:CAV) (B:uo):Tq:=fun j a b=>mk (cond (a.Au == 6) ((e b 1).bind fun h=>cond h (AwK (d [] (Oc b))) (AwK (c 8 aK))) (cond (a.Au == 5) ((e b 3).bind fun i=>cond i (AwK (t j a b)) (AwK (c 8 aK))) (cond (a.Au == 10) ((e b 2).bind fun l=>cond l ((u b).bind fun m=>(v j).bind fun n=>(w n m.1).bind fun o=>AwK (d [] o.1)) (AwK (c 8 aK))) (cond (a.Au == 12) ((e b 4).bind fun p=>cond p ((x (Oc b)).bind fun q=>(y q.1.bI a.fText).bind fun f=>cond (!f.2) (AwK (c 6 SAV)) (AwK (d [] f.1))) (AwK (c 8 aK))) (cond (a.Au == 8) ((z b a.CY a.CX).bind fun g=>cond g.2 ((A g.1).bind fun r=>AwK (d r Awp)) (AwK (c 8 aK))) (cond (a.Au == 7) ((B b).bind fun s=>AwK (d [] s)) (cond (a.Au == 9) (AwK (d [⟨4,Awp,b.fId,⟨0,0,false,false,false,false,Awp,0⟩⟩] Awp)) (AwK (c 8 aK)))))))))
def XAm:Tq:=NA2 TAl vJ KAm Zb fZ gB zC nK vI UAm KAl WAm
def OBa:Avb:=BI u3 XAm AEp Oh [RBX,LAX,QBY,HAk,WAy,YAy,XBH,KBa,IAX,LBa,JAz,NBa] Tryz.func190 NA2
def OA2 (c:iw) (l:AzI) (f:iy) (p:Jv) (q:Rk) (r:AwT) (n:uM) (o:Zy) (s:Rk) (t:Qk) (u:Tq):Rk:=fun b a=>mk (cond (a.Au == 1) (cond ((Me b:Int) == 3) (AwK (c 1 jG)) (cond ((Gy b) == 1000) (AwK (c 1 jG)) ((l (NM (Gy b))).bind fun j=>AwK (f [] j)))) ((p b (Ay1 a)).bind fun d=>cond (Ayn d) (AwK (c 2 ⟨#[115,101,115,115,105,111,110]⟩)) (cond (a.Au == 13) (AwK (f [] Awp)) (cond (a.Au == 2) (AwK (q b a)) (cond (Fa d (Me b)) (cond (!(Vl (Qd b) d ⟨0,false⟩).QW) (AwK (c 5 ⟨#[111,117,116]⟩)) (cond (a.Au == 3) (cond ((Awq a.fText) > 20) (AwK (c 6 SAV)) ((r a.fText).bind fun m=>AwK (f [⟨1,m,0,⟨0,0,false,false,false,false,Awp,0⟩⟩] Awp))) (cond (a.Au == 4) (cond (a.Aj == 2) ((l (AyD b)).bind fun e=>cond (LZ e jI) (cond (LZ (e++jI) a.fText) ((n a.Aj ((e++jI)++a.fText)).bind fun g=>AwK (o b a g.1 g.2)) none) none) ((n a.Aj a.fText).bind fun h=>AwK (o b a h.1 h.2))) (cond (a.Au == 11) (AwK (s b a)) ((t (La b) a.Ag).bind fun i=>cond (!i.2) (AwK (c 7 ⟨#[110,111,110,101]⟩)) (AwK (u b a i.1))))))) none)))))
def Qo:Rk:=OA2 vI lF vJ HAl IAl Jt JAl yC SAl TU XAm
def PBa:Avb:=BI u2 Qo bM Oh [IAX,WBG,LAX,IBX,JBX,Ayr,KBX,ZBG,QBX,uG,OBa] Tryz.func127 OA2
inductive YAZ where
 |c0 (a:(List Int)) (b:Int) (d:BU) (e f:(List BQ))
def QBa:YAZ->Avm
 |.c0 a b d e f=>(tdo Tryz.f250 976,[vr 1 3 a,vp 2 128,vp 4 256,vp 6 384,vi 7 b],[(128,.var [.BG 90 d.Ak]),(256,.var [.own 1016384]),(384,.var [.own 1024576]),(1016384,.sl 90 e),(1024576,.sl 90 f)])
def PA2 (c:AyR) (k:Aw7 YAZ (BU×Bool)):tu:=fun b d=>mk ((c b).bind fun a=>cond (!a) (AyC (IZ,false)) (k (.c0 d 0 b [] [])))
def QA2 (a:AyR) (k:Aw7 YAZ (BU×Bool)):Aw7 YAZ (BU×Bool)
 |.c0 d b c f e=>mk (cond (Av9 b (Awa c)) (cond (Qm b c) (cond (KZ b (Aw3 d)) (cond (Fb b d) (cond (Ayt (GZ d b) (Aym c b)) (cond (KZ (Aym c b) (Awi c b)) (cond (Hf (Awi c b) (Aym c b)) (cond (Vz e) (k (.c0 d (NM b) c f (e++[WO (Sl c b) (Ul c b) (Axd (Awi c b))]))) none) none) (cond ((Av7 (Aym c b)) && (decide ((Aym c b)<=(Aym c b)))) (cond (Vz e) (k (.c0 d (NM b) c f (e++[(⟨(Sl c b).fName,Ayg (Ul c b) (Aym c b),Aym c b⟩:BQ)]))) none) none)) (cond (KZ (GZ d b) (Awi c b)) (cond (Hf (Awi c b) (Aym c b)) (cond (Vz e) (k (.c0 d (NM b) c f (e++[WO (Sl c b) (Ul c b) (Axd (Awi c b))]))) none) none) (cond (Hf (GZ d b) (Aym c b)) (cond (Vz e) (k (.c0 d (NM b) c f (e++[(⟨(Sl c b).fName,Ayg (Ul c b) (GZ d b),GZ d b⟩:BQ)]))) none) none))) none) (cond (0<(Awi c b)) (cond (Hf (Awi c b) (Aym c b)) (cond (Vz e) (k (.c0 d (NM b) c f (e++[WO (Sl c b) (Ul c b) (Axd (Awi c b))]))) none) none) (cond (Vz e) (k (.c0 d (NM b) c f (e++[(⟨(Sl c b).fName,Ayg (Ul c b) Qa,0⟩:BQ)]))) none))) none) (AyC (⟨e⟩,true)))
def zD:AzH YAZ (BU×Bool)
 |0,_=>none
 |m+1,s=>QA2 Xr (zD m) s
def zF:tu:=PA2 Xr (zD AY)
def RBa:Avb:=fy u2 zF AUo jq [UAk] Tryz.func250 QBa QA2 PA2 zD
def RA2 (e:Va) (f:WQ) (h:tu):iU:=fun g b a i=>mk (O1 (e a 0 (SG b)) (AyC (IZ,false)) (JD (Hf a (SG b)) ((f g ((b.take (Axd a)).drop 0)).bind fun c=>cond (KZ c.2 a) (AyC (IZ,false)) ((h c.1 i).bind fun d=>AyC (d.1,d.2)))))
def zG:iU:=RA2 AzN sS zF
def SBa:Avb:=BI u4 zG AUp jq [AzY,LAy,RBa] Tryz.func191 RA2
def SA2 (c:Avo):Xz:=fun b d=>mk ((c b d).bind fun a=>cond (Ayn a) (MZ (Awp,false)) (FK (Qm a b) (MZ (Ul b a,true))))
def nM:Xz:=SA2 sJ
def CBI:Avb:=BI u2 nM wS IQ [GAy] Tryz.func94 SA2
inductive CAa where
 |c0 (a:AA) (b:Int) (d:(List AA))
def TBa:CAa->Avm
 |.c0 a b d=>(tdo Tryz.f140 992,[vs 0 a,vo 4 304,vi 5 b],[(304,.sl 9 d)])
def TA2 (b:SS) (c:Ti) (k:Aw7 CAa (List AA×Int)):aF:=fun a=>mk (cond ((Awq a) > 20000) (some ([],0)) (k (.c0 a 0 [])))
def UA2 (a:SS) (b:Ti) (k:Aw7 CAa (List AA×Int)):Aw7 CAa (List AA×Int)
 |.c0 e d f=>mk (cond (KZ d (Awq e)) ((a e d).bind fun c=>cond (!c.2.2) (some (f,d)) (cond (Ayt c.1 (Ayv ((Aw9 (Awq e) c.2.1) - 4))) (some (f,d)) (cond (Om (Ayv (c.2.1+4)) (Ayv (U3 c)) (Awq e)) ((b (e.extract (Ic (c.2.1+4)) (Ic (U3 c)))).bind fun g=>cond (!g.2) (some (f,d)) (cond (Om d (Ayv (U3 c)) (Awq e)) (cond (!(Aww g.1 (Vj e d (U3 c)))) (some (f,d)) (cond (AxW f) (k (.c0 e (Ayv (U3 c)) (f++[e.extract (Ic (c.2.1+4)) (Ic (U3 c))]))) none)) none)) none))) (some (f,d)))
def zI:AzH CAa (List AA×Int)
 |0,_=>none
 |m+1,s=>UA2 U0 Ze (zI m) s
def zH:aF:=TA2 U0 Ze (zI AY)
def UBa:Avb:=fy u1 zH Cc AUq [OAz,BAy] Tryz.func140 TBa UA2 TA2 zI
def iL (l:Zz) (m:DAV) (i:Zz) (j:Z4) (c:Tf):aG:=fun b=>mk ((l ⟨b,0,false⟩).bind fun a=>cond (a.1 == 1) ((m a.2 32).bind fun d=>aH c ⟨a.1,d.1,0,⟨0,0,false,false,false,false,Awp,0⟩⟩ d.2.I7 (some (⟨0,Awp,0,⟨0,0,false,false,false,false,Awp,0⟩⟩,false)) b (some (⟨a.1,d.1,0,⟨0,0,false,false,false,false,Awp,0⟩⟩,true))) (cond (a.1 == 2) (cond (a.1 == 2) ((i a.2).bind fun e=>aH c ⟨a.1,Awp,e.1,⟨0,0,false,false,false,false,Awp,0⟩⟩ e.2.I7 (some (⟨0,Awp,0,⟨0,0,false,false,false,false,Awp,0⟩⟩,false)) b (some (⟨a.1,Awp,e.1,⟨0,0,false,false,false,false,Awp,0⟩⟩,true))) (cond (a.1 == 3) (cond (RAV b) ((j (QJ b AwX)).bind fun g=>aH c ⟨a.1,Awp,0,g.1⟩ a.2.I7 (some (⟨0,Awp,0,⟨0,0,false,false,false,false,Awp,0⟩⟩,false)) b (some (⟨a.1,Awp,0,g.1⟩,true))) none) (aH c ⟨a.1,Awp,0,⟨0,0,false,false,false,false,Awp,0⟩⟩ a.2.I7 (some (⟨0,Awp,0,⟨0,0,false,false,false,false,Awp,0⟩⟩,false)) b (some (⟨a.1,Awp,0,⟨0,0,false,false,false,false,Awp,0⟩⟩,true))))) (cond (a.1 == 4) ((i a.2).bind fun f=>aH c ⟨a.1,Awp,f.1,⟨0,0,false,false,false,false,Awp,0⟩⟩ f.2.I7 (some (⟨0,Awp,0,⟨0,0,false,false,false,false,Awp,0⟩⟩,false)) b (some (⟨a.1,Awp,f.1,⟨0,0,false,false,false,false,Awp,0⟩⟩,true))) (cond (a.1 == 3) (cond (RAV b) ((j (QJ b AwX)).bind fun h=>aH c ⟨a.1,Awp,0,h.1⟩ a.2.I7 (some (⟨0,Awp,0,⟨0,0,false,false,false,false,Awp,0⟩⟩,false)) b (some (⟨a.1,Awp,0,h.1⟩,true))) none) (aH c ⟨a.1,Awp,0,⟨0,0,false,false,false,false,Awp,0⟩⟩ a.2.I7 (some (⟨0,Awp,0,⟨0,0,false,false,false,false,Awp,0⟩⟩,false)) b (some (⟨a.1,Awp,0,⟨0,0,false,false,false,false,Awp,0⟩⟩,true)))))))
def Uw:aG:=iL Azc Axv Zj Xh iE
def VBa:Avb:=BI u1 Uw Cc AUr [BBH,RAz,QAz,CBH,KAx] Tryz.func142 iL
inductive FAa where
 |c0 (a:AA) (b d:Int) (e:(List Ah)) (f:(List AA))
def WBa:FAa->Avm
 |.c0 a b d e f=>(tdo Tryz.f95 2000,[vs 0 a,vo 6 432,vo 7 496,vi 9 b,vi 10 d],[(432,.sl 78 e),(496,.sl 9 f)])
def VA2 (b:aF) (e:Pn) (f:aG) (g:Ti) (k:Aw7 FAa (List Ah×Int)):X0:=fun d c=>(b c).bind fun a=>k (.c0 d 0 0 [] a.1)
def YAm (a:aF) (b:Pn) (c:aG) (d:Ti) (k:Aw7 FAa (List Ah×Int)):Aw7 FAa (List Ah×Int)
 |.c0 l h e g f=>mk (cond (KZ e (FD f)) (cond (NZ e f) ((b l (NM e) (Jf f e Awp)).bind fun i=>(c i.1).bind fun j=>cond (!i.2) (some (g,h)) (cond (!j.2) (some (g,h)) (cond (iV g) (cond (NZ e f) ((d (Jf f e Awp)).bind fun m=>k (.c0 l (AxZ h (Awq m.1)) (NM e) (g++[j.1]) f)) none) none))) none) (some (g,h)))
def nR:AzH FAa (List Ah×Int)
 |0,_=>none
 |m+1,s=>YAm zH lG Uw Ze (nR m) s
def nP:X0:=VA2 zH lG Uw Ze (nR AY)
def DBI:Avb:=fy u2 nP KJ AUs [UBa,Aaw,VBa,BAy] Tryz.func95 WBa YAm VA2 nR
def WA2:uq:=fun a b=>mk (cond (FC ((0+a.CO.length)*80)) (cond (iV a.CO) (some ⟨a.AX,a.Bq,He a,F9 a,a.CO++[b]⟩) none) none)
def Y6:uq:=WA2
def EBI:Avb:=BI u2 Y6 Aem VB [] Tryz.func130 WA2 [0]
def XA2 (c:Avp):OL:=fun a=>mk (Ik (FC ((0+(Awa a.Bc))*40)) (c.bind fun b=>some ⟨a.BO,false,⟨Qy a⟩,b,[],[],0⟩))
def nS:OL:=XA2 Axn
theorem XBa:Q8 ctx PP 192 RD U8 (u1 nS):=ty0 u1 nS RD U8 [iZ] Tryz.func192 XA2
def YA2 (c:Avp):CAj:=fun a=>mk (Ik (FC ((0+a.2.2.1.length)*40)) (c.bind fun b=>some ⟨a.1,false,⟨a.2.2.1⟩,b,[],[],0⟩))
def nU:CAj:=YA2 Axn
theorem YBa:Q8 ctx PP 192 AU7 U8 (u1 nU):=ty0 u1 nU AU7 U8 [iZ] Tryz.func192 YA2
inductive GAa where
 |c0 (a:AA) (b:Bool) (d:AA) (e f:Int) (g:AA) (h i:Int) (j:AA) (l:Bool) (n:AA) (o p:Int) (q:AA) (t u:Int) (v:(List BQ)) (w:(List Af)) (x:(List EG)) (y:(List CS)) (aa:(List Int)) (ab:(List AA)) (ac:(List D8)) (ad:(List Ah)) (ae:(List BQ))
 |c1 (a:AA) (b:Bool) (d:AA) (e f:Int) (g:AA) (h i:Int) (j:AA) (l:Bool) (n:AA) (o p:Int) (q:AA) (t u:Int) (v:(List BQ)) (w:(List Af)) (x:(List EG)) (y:(List CS)) (aa:(List Int)) (ab:(List AA)) (ac:(List D8)) (ad:(List Ah)) (ae:(List BQ))
def ZBa:GAa->Avm
 |.c0 a b d e f g h i j l n o p q t u v w x y aa ab ac ad ae=>(tdo Tryz.f128 510,[vp 0 0,vp 6 384,vp 9 576],[(0,.var [.str a,.bool b,.own 1000002,.str d,li e,.own 1000005,li f,.str g,li h,.own 1000009,.own 1000010,li i,.own 1000012,.own 1000013,.own 1000014,.own 1000015]),(384,.var [.str j,.bool l,.any,.str n,li o,.any,li p,.str q,li t,.any,.any,li u]),(576,.var [.own 1036864]),(1000002,.sl 90 v),(1000005,.sl 76 w),(1000009,.sl 127 x),(1000010,.sl 157 y),(1000012,.sl 3 aa),(1000013,.sl 9 ab),(1000014,.sl 48 ac),(1000015,.sl 78 ad),(1036864,.sl 90 ae)])
 |.c1 a b d e f g h i j l n o p q t u v w x y aa ab ac ad ae=>(tdo Tryz.f128 510,[vp 0 0,vp 6 384,vp 9 576],[(0,.var [.str a,.bool b,.own 1000002,.str d,li e,.own 1000005,li f,.str g,li h,.own 1000009,.own 1000010,li i,.own 1000012,.own 1000013,.own 1000014,.own 1000015]),(384,.var [.str j,.bool l,.own 1000002,.str n,li o,.own 1000005,li p,.str q,li t,.own 1000009,.own 1000010,li u]),(576,.var [.own 1036864]),(1000002,.sl 90 v),(1000005,.sl 76 w),(1000009,.sl 127 x),(1000010,.sl 157 y),(1000012,.sl 3 aa),(1000013,.sl 9 ab),(1000014,.sl 48 ac),(1000015,.sl 78 ad),(1036864,.sl 90 ae)])
def ZAm (h:Xy) (i:iU) (l:Xz) (m:X0) (n:uq) (o:OL×CAj) (q:SH) (k:Aw7 GAa Bg):Zl:=fun a e j=>mk ((h (AyU a) (Ju a) e).bind fun d=>(i a.AX.Bc d.1 1 j).bind fun c=>(l c.1 SI).bind fun f=>(m (AyU a) f.1).bind fun g=>cond (Ayt (QD g.1) (Ju a)) ((n a e).bind fun b=>k (.c0 (AyU b) (Ayd b) (Ay0 b) (Qp b) (NV b) (AxA b) (Ju b) (Axy b) (AyU a) (Ayd a) (Ay0 a) (Qp a) (NV a) (AxA a) (Ju a) (Axy a) (O4 b) (Gt b) (O6 b) (O7 b) b.Bq (He b) (F9 b) b.CO c.1.Ak)) (k (.c1 (AyU a) (Ayd a) (Ay0 a) (Qp a) (NV a) (AxA a) (Ju a) (Axy a) (AyU a) (Ayd a) (Ay0 a) (Qp a) (NV a) (AxA a) (Ju a) (Axy a) (O4 a) (Gt a) (O6 a) (O7 a) a.Bq (He a) (F9 a) a.CO c.1.Ak)))
def nX (a:Xy) (b:iU) (c:Xz) (d:X0) (e:uq) (f:OL×CAj) (h:SH) (k:Aw7 GAa Bg):Aw7 GAa Bg
 |.c0 _ _ _ _ _ _ _ _ j l n o p q r s _ _ _ _ t u v w m=>mk ((f.2 (j,l,m,n,o,(),p,q,r,(),(),s)).bind fun i=>Un (h ⟨i,t,u,v,w⟩ 10 Awp))
 |.c1 _ _ _ _ _ _ _ _ j l n o q r s v _ p t u w x y z m=>mk ((f.1 ⟨j,l,⟨m⟩,⟨n,o,p,q,r,s⟩,t,u,v⟩).bind fun i=>Un (h ⟨i,w,x,y,z⟩ 10 Awp))
def eX:AzH GAa Bg
 |0,_=>none
 |m+1,s=>nX sF zG nM nP Y6 (nS,nU) XG (eX m) s
def Y7:Zl:=ZAm sF zG nM nP Y6 (nS,nU) XG (eX AY)
def Apf:Avb:=fy u3 Y7 AUt VB [QBG,SBa,CBI,DBI,EBI,fj u1 u1 XBa YBa,CAz] Tryz.func128 ZBa nX ZAm eX [0]
def ZA2 (d:Qk) (f:YAi):Jv:=fun b e=>mk ((d (La b) e).bind fun a=>cond (!a.2) U4 (cond ((Nb a.1) != 2) U4 ((f b a.1).bind fun c=>some c)))
def XR:Jv:=ZA2 TU yI
def BBb:Avb:=BI u2 XR wU FN [uG,EBH] Tryz.func129 ZA2
def AN0 (c:SK):OL:=fun a=>mk (Ik (FC ((0+(Awa a.Bc))*40)) ((c (La a)).bind fun b=>Ik (Ayo (0+(Me a))) (Ik (Ayo (0+(NS a))) (some ⟨a.BO,a.CZ,⟨Qy a⟩,b,Qd a,Qe a,Gy a⟩))))
def Y9:OL:=AN0 Zd
def FBI:Avb:=BI u1 Y9 RD U8 [NAx] Tryz.func36 AN0
inductive eu where
 |c0 (a:(List CS)) (b e f:Int) (d:(List CS))
 |c1 (a:(List CS)) (b g:Int) (d:(List CS))
def CBb:eu->Avm
 |.c0 a b e f d=>(tdo Tryz.f194 464,[vr 0 157 a,vi 1 b,vi 2 e,vo 7 496,vi 8 f],[(496,.sl 157 d)])
 |.c1 a b g d=>(tdo Tryz.f194 2000,[vr 0 157 a,vi 1 b,vo 7 496,vi 9 g],[(496,.sl 157 d)])
def BA3 (k:Aw7 eu (List CS)):DAj:=fun a b c=>k (.c0 a b c 0 [])
def nY (k:Aw7 eu (List CS)):Aw7 eu (List CS)
 |.c0 a c e b d=>mk (cond (Av9 b a.length) (cond (Fa b a.length) (cond (KZ (Pq a b).fId c) (cond (Fa b a.length) (cond (Ayo (d.length+1)) (k (.c0 a c e (NM b) (d++[Pq a b]))) none) none) (k (.c0 a c e (NM b) d))) none) (cond (Jw e) (cond (Ayo (d.length+1)) (k (.c1 a c 0 (d++[(⟨c,e⟩:CS)]))) none) (k (.c1 a c 0 d))))
 |.c1 b d a c=>mk (cond (Av9 a b.length) (cond (Fa a b.length) (cond (Ayt (Pq b a).fId d) (cond (Fa a b.length) (cond (Ayo (c.length+1)) (k (.c1 b d (NM a) (c++[Pq b a]))) none) none) (k (.c1 b d (NM a) c))) none) (some c))
def Vq:AzH eu (List CS)
 |0,_=>none
 |m+1,s=>nY (Vq m) s
def zM:DAj:=BA3 (Vq AY)
def DBb:Avb:=fy u3 zM Aen Aeo [] Tryz.func194 CBb nY BA3 Vq
inductive fA where
 |c0 (af:Int) (ag:Ap) (a:CV) (b:AA) (d:Bool) (e:AA) (f g:Int) (h:AA) (i j:Int) (l:AA) (n:Bool) (o:AA) (p q:Int) (t:AA) (u v:Int) (AwA:(List EG)) (w:(List BQ)) (x:(List Af)) (y:(List EG)) (aa:(List CS)) (ab:(List BQ)) (ac:(List Af)) (ad:(List EG)) (ae:(List CS))
 |c1 (ai:Int) (a:CV) (b:AA) (d:Bool) (e:AA) (f g:Int) (h:AA) (i j:Int) (l:AA) (n:Bool) (o:AA) (p q:Int) (t:AA) (u v:Int) (w:(List BQ)) (x:(List Af)) (y:(List EG)) (aa:(List CS)) (ab:(List BQ)) (ac:(List Af)) (ad:(List EG)) (ae:(List CS))
def EBb:fA->Avm
 |.c0 ag b a d e f g h i j l n o p q t u v w AwA x y aa ab ac ad ae af=>(tdo Tryz.f131 251728,[vp 4 256,vp 5 320,vp 8 512,vp 9 576,vo 10 688,vi 11 ag],[(256,.var [.str b.BO,.bool b.CZ,.BG 90 b.Bc.Ak,.str b.AU.Bv,li b.AU.DU,.BG 76 b.AU.AZ,li b.AU.BM,.str b.AU.Dh,li b.AU.fCount,.BG 127 b.BP,.BG 157 b.BD,li b.CW]),(320,.var [li a.Au,li a.EJ,li a.Ag,li a.Aj,.str a.fText,.bool a.CY,.bool a.CX]),(512,.var [.str d,.bool e,.own 1032770,.str f,li g,.own 1032773,li h,.str i,li j,.own 1032777,.own 1032778,li l]),(576,.var [.str n,.bool o,.own 1036866,.str p,li q,.own 1036869,li t,.str u,li v,.own 1036873,.own 1036874,li w]),(688,.sl 127 AwA),(1032770,.sl 90 x),(1032773,.sl 76 y),(1032777,.sl 127 aa),(1032778,.sl 157 ab),(1036866,.sl 90 ac),(1036869,.sl 76 ad),(1036873,.sl 127 ae),(1036874,.sl 157 af)])
 |.c1 ai a d e f g h i j l n o p q t u v w x y aa ab ac ad ae af=>(tdo Tryz.f131 251856,[vp 5 320,vp 8 512,vp 9 576,vi 12 ai],[(320,.var [li a.Au,li a.EJ,li a.Ag,li a.Aj,.str a.fText,.bool a.CY,.bool a.CX]),(512,.var [.str d,.bool e,.own 1032770,.str f,li g,.own 1032773,li h,.str i,li j,.own 1032777,.own 1032778,li l]),(576,.var [.str n,.bool o,.own 1036866,.str p,li q,.own 1036869,li t,.str u,li v,.own 1036873,.own 1036874,li w]),(1032770,.sl 90 x),(1032773,.sl 76 y),(1032777,.sl 127 aa),(1032778,.sl 157 ab),(1036866,.sl 90 ac),(1036869,.sl 76 ad),(1036873,.sl 127 ae),(1036874,.sl 157 af)])
def CA3 (i:OL) (l:Qk) (g:DAj) (k:Aw7 fA Ap):Zm:=fun c b j e=>mk ((i c).bind fun a=>cond (j != 0) (some a) (cond (b.Au == 1) (Ik (Ayo ((Me a)+1)) (some ⟨a.BO,a.CZ,a.Bc,La a,(Qd a)++[(⟨NM (Gy c),false⟩:EG)],Qe a,NM (Gy c)⟩)) (cond (b.Au == 13) (k (.c0 0 c b Awp false Awp 0 0 Awp 0 0 a.BO a.CZ (La a).Bv (AwG a) (Qx a) (Tc (La a)) (SL a) (Gy a) [] [] [] [] [] (Qy a) (Awf (La a)) (Qd a) (Qe a))) (cond (b.Au == 2) (k (.c1 0 b Awp false Awp 0 0 Awp 0 0 a.BO a.CZ (La a).Bv (AwG a) (Qx a) (Tc (La a)) (SL a) (Gy a) [] [] [] [] (Qy a) (Awf (La a)) (Qd a) (Qe a))) (cond (b.Au == 5) ((l (La c) b.Ag).bind fun d=>cond d.2 (cond ((Nb d.1) == 2) (cond (Jw e) (cond (KZ e d.1.fNext) ((g (Qe c) d.1.fId (NM e)).bind fun f=>some ⟨a.BO,a.CZ,a.Bc,La a,Qd a,f,Gy a⟩) (some a)) (some a)) (some a)) (some a)) (cond (b.Au == 9) ((g (Qe c) b.Ag (-AwX)).bind fun h=>some ⟨a.BO,a.CZ,a.Bc,La a,Qd a,h,Gy a⟩) (some a)))))))
def ng (a:OL) (b:Qk) (c:DAj) (k:Aw7 fA Ap):Aw7 fA Ap
 |.c0 d e g t u v w x y z A h i j l m n o p f B C D E q r F s=>mk (cond (Av9 d (Me e)) (cond (Fa d (Me e)) (cond ((Vl (Qd e) d ⟨0,false⟩).fId != (Ay1 g)) (cond (Fa d (Me e)) (cond (Ayo (f.length+1)) (k (.c0 (NM d) e g t u v w x y z A h i j l m n o p (f++[Vl (Qd e) d ⟨0,false⟩]) B C D E q r F s)) none) none) (k (.c0 (NM d) e g t u v w x y z A h i j l m n o p f B C D E q r F s))) none) (some ⟨h,i,⟨q⟩,⟨j,l,r,m,n,o⟩,f,s,p⟩))
 |.c1 d f s t u v w x y z g h i j l m n o A B C D p q e r=>mk (cond (Av9 d e.length) (cond (Fa d e.length) (cond (Vl e d ⟨0,false⟩).QW (cond (Fa d e.length) (k (.c1 (NM d) f s t u v w x y z g h i j l m n o A B C D p q (e.set (Axd d) (⟨(Vl e d ⟨0,false⟩).fId,true⟩:EG)) r)) none) (cond (Fa d e.length) (cond (Fa d e.length) (k (.c1 (NM d) f s t u v w x y z g h i j l m n o A B C D p q (e.set (Axd d) (⟨(Vl e d ⟨0,false⟩).fId,(Vl e d ⟨0,false⟩).fId == (Ay1 f)⟩:EG)) r)) none) none)) none) (some ⟨g,h,⟨p⟩,⟨i,j,q,l,m,n⟩,e,r,o⟩))
def XT:AzH fA Ap
 |0,_=>none
 |m+1,s=>ng Y9 TU zM (XT m) s
def Vr:Zm:=CA3 Y9 TU zM (XT AY)
def FBb:Avb:=fy u4 Vr AUu U8 [FBI,uG,DBb] Tryz.func131 EBb ng CA3 XT
inductive IAa where
 |c0 (a b:Int) (d:AA) (e f:Int) (g:AA) (h:Bool) (i:AA) (j l:Int) (n:AA) (o p:Int) (q:DW) (t:(List Ah)) (u:(List BQ)) (v:(List Af)) (w:(List EG)) (x:(List CS)) (y:(List Int)) (aa:(List AA)) (ab:(List D8)) (ac:(List Ah))
def GBb:IAa->Avm
 |.c0 b d e f g h i j l n o p q a t u v w x y aa ab ac=>(tdo Tryz.f76 4048,[vp 0 0,vi 1 b,vp 5 320,vo 6 432,vi 7 d,vs 8 e,vi 9 f,vi 10 g],[(0,.var [.str h,.bool i,.own 1000002,.str j,li l,.own 1000005,li n,.str o,li p,.own 1000009,.own 1000010,li q,.own 1000012,.own 1000013,.own 1000014,.own 1000015]),(320,.var [li a.BA.Au,li a.BA.EJ,li a.BA.Ag,li a.BA.Aj,.str a.BA.fText,.bool a.BA.CY,.bool a.BA.CX,.bool a.Nr,.BG 3 a.Lc,.bool a.JY]),(432,.sl 78 t),(1000002,.sl 90 u),(1000005,.sl 76 v),(1000009,.sl 127 w),(1000010,.sl 157 x),(1000012,.sl 3 y),(1000013,.sl 9 aa),(1000014,.sl 48 ab),(1000015,.sl 78 ac)])
def ni (d:SH) (i:Rk) (j:Zl) (f:Jv) (l:ABi) (m:AxE) (n:uq) (o:Zm) (k:Aw7 IAa Bg):X5:=fun a g c=>mk (cond (!(Ayd a)) (Un (d a 9 ⟨#[100,111,119,110]⟩)) (cond ((Ju a)>=10000) (Un (d a 9 ⟨#[100,111,119,110]⟩)) ((i a.AX c.BA).bind fun b=>cond c.Nr (cond (AzC (QD b.1)) (cond (WR Qa (QD b.1)) (Un (j a (b.1.getD (Axd Qa) (⟨0,Awp,0,⟨0,0,false,false,false,false,Awp,0⟩⟩:Ah)) c.Lc)) none) ((f a.AX c.BA.Ag).bind fun e=>k (.c0 g b.2.1 b.2.2 e 0 (AyU a) (Ayd a) (Ay0 a) (Qp a) (NV a) (AxA a) (Ju a) (Axy a) c b.1 (O4 a) (Gt a) (O6 a) (O7 a) a.Bq (He a) (F9 a) a.CO))) ((f a.AX c.BA.Ag).bind fun h=>k (.c0 g b.2.1 b.2.2 h 0 (AyU a) (Ayd a) (Ay0 a) (Qp a) (NV a) (AxA a) (Ju a) (Axy a) c b.1 (O4 a) (Gt a) (O6 a) (O7 a) a.Bq (He a) (F9 a) a.CO)))))
def AGd (a:SH) (b:Rk) (c:Zl) (d:Jv) (e:ABi) (f:AxE) (g:uq) (h:Zm) (k:Aw7 IAa Bg):Aw7 IAa Bg
 |.c0 J n r w j u F A B D E v I s l y C G H o p m q=>mk (cond (Av9 j l.length) (cond (QF j l) ((e u ⟨y⟩ v (GR l j Awp ⟨0,0,false,false,false,false,Awp,0⟩)).bind fun x=>cond (QF j l) ((f ⟨A,B,C,D,E,v⟩ (GR l j Awp ⟨0,0,false,false,false,false,Awp,0⟩)).bind fun z=>cond (QF j l) ((g ⟨⟨u,F,x,z.1,G,H,I⟩,o,p,m,q⟩ (GR l j Awp ⟨0,0,false,false,false,false,Awp,0⟩)).bind fun i=>k (.c0 J n r w (NM j) (AyU i) (Ayd i) (Ay0 i) (Qp i) (NV i) (AxA i) (Ju i) (Axy i) s l (O4 i) (Gt i) (O6 i) (O7 i) i.Bq (He i) (F9 i) i.CO)) none) none) none) ((h ⟨u,F,⟨y⟩,⟨A,B,C,D,E,v⟩,G,H,I⟩ s.BA n w).bind fun t=>cond (s.BA.Au == 5) (cond (Ayy n) (cond (FC ((0+m.length)*24)) (cond (FC ((m.length+1)*24)) (Un (a ⟨t,o,p,m++[(⟨s.BA.Ag,w,J⟩:D8)],q⟩ n r)) none) none) (Un (a ⟨t,o,p,m,q⟩ n r))) (Un (a ⟨t,o,p,m,q⟩ n r))))
def ny:AzH IAa Bg
 |0,_=>none
 |m+1,s=>AGd XG Qo Y7 XR fB Rq Y6 Vr (ny m) s
def Vs:X5:=ni XG Qo Y7 XR fB Rq Y6 Vr (ny AY)
def HBb:Avb:=fy u3 Vs AUv VB [CAz,PBa,Apf,BBb,SBG,LAk,EBI,FBb] Tryz.func76 GBb AGd ni ny [0]
inductive JAa where
 |c0 (a:Int) (b d:Bo)
def IBb:JAa->Avm
 |.c0 d a b=>(tdo Tryz.f51 464,[vp 2 128,vp 3 192,vi 5 d],[(128,.var [.str a.Bv,li a.DU,.BG 76 a.AZ,li a.BM,.str a.Dh,li a.fCount]),(192,.var [.str b.Bv,li b.DU,.BG 76 b.AZ,li b.BM,.str b.Dh,li b.fCount])])
def DA3 (k:Aw7 JAa Bool):WS:=fun a b=>mk (cond (!(Aww a.Bv b.Bv)) (some false) (cond ((Ax5 a) != (Ax5 b)) (some false) (cond (a.BM != b.BM) (some false) (cond (!(Aww (Tc a) (Tc b))) (some false) (cond (a.fCount != b.fCount) (some false) (cond ((ND a) != (ND b)) (some false) (k (.c0 0 a b))))))))
def BAn (k:Aw7 JAa Bool):Aw7 JAa Bool
 |.c0 a b c=>mk (cond (Av9 a (Aw5 b)) (cond (Fa a (Aw5 b)) (cond (Fa a (Aw5 c)) (cond (!(((Eb (Awf b) a ⟨0,0,false,false,false,false,Awp,0⟩).fId == (Eb (Awf c) a ⟨0,0,false,false,false,false,Awp,0⟩).fId) && (((Nb (Eb (Awf b) a ⟨0,0,false,false,false,false,Awp,0⟩)) == (Nb (Eb (Awf c) a ⟨0,0,false,false,false,false,Awp,0⟩))) && (((AzT (Eb (Awf b) a ⟨0,0,false,false,false,false,Awp,0⟩)) == (AzT (Eb (Awf c) a ⟨0,0,false,false,false,false,Awp,0⟩))) && (((Awk (Eb (Awf b) a ⟨0,0,false,false,false,false,Awp,0⟩)) == (Awk (Eb (Awf c) a ⟨0,0,false,false,false,false,Awp,0⟩))) && (((GU (Eb (Awf b) a ⟨0,0,false,false,false,false,Awp,0⟩)) == (GU (Eb (Awf c) a ⟨0,0,false,false,false,false,Awp,0⟩))) && (((AwY (Eb (Awf b) a ⟨0,0,false,false,false,false,Awp,0⟩)) == (AwY (Eb (Awf c) a ⟨0,0,false,false,false,false,Awp,0⟩))) && ((Aww (Oc (Eb (Awf b) a ⟨0,0,false,false,false,false,Awp,0⟩)) (Oc (Eb (Awf c) a ⟨0,0,false,false,false,false,Awp,0⟩))) && (((Eb (Awf b) a ⟨0,0,false,false,false,false,Awp,0⟩).fNext == (Eb (Awf c) a ⟨0,0,false,false,false,false,Awp,0⟩).fNext) && true))))))))) (some false) (k (.c0 (NM a) b c))) none) none) (some true))
def oD:AzH JAa Bool
 |0,_=>none
 |m+1,s=>BAn (oD m) s
def oC:WS:=DA3 (oD AY)
def GBI:Avb:=fy u2 oC AUw E8 [] Tryz.func51 IBb BAn DA3 oD
inductive KAa where
 |c0 (a:(List Ah)) (b:Int) (d:AA) (e f:Int) (g:AA) (h:Int) (i:AA) (j l:Int) (n:AA) (o:Int) (p q:(List Af))
def JBb:KAa->Avm
 |.c0 a b d e f g h i j l n o p q=>(tdo Tryz.f49 464,[vr 1 78 a,vp 4 256,vp 6 384,vi 7 b],[(256,.var [.str d,li e,.own 1016386,li f,.str g,li h]),(384,.var [.str i,li j,.own 1024578,li l,.str n,li o]),(1016386,.sl 76 p),(1024578,.sl 76 q)])
def EA3 (b:SK) (e:AxE) (k:Aw7 KAa (Bo×Bool)):Zp:=fun c d=>mk ((b c).bind fun a=>k (.c0 d 0 Awp 0 0 Awp 0 a.Bv (Ax5 a) a.BM (Tc a) a.fCount [] (Awf a)))
def CAn (a:SK) (b:AxE) (k:Aw7 KAa (Bo×Bool)):Aw7 KAa (Bo×Bool)
 |.c0 e d m n o p q f g i j l r h=>mk (cond (Av9 d e.length) (cond (QF d e) ((b ⟨f,g,h,i,j,l⟩ (GR e d Awp ⟨0,0,false,false,false,false,Awp,0⟩)).bind fun c=>cond (!c.2) (some (Mc,false)) (k (.c0 e (NM d) m n o p q c.1.Bv (Ax5 c.1) c.1.BM (Tc c.1) c.1.fCount r (Awf c.1)))) none) (some (⟨f,g,h,i,j,l⟩,true)))
def oG:AzH KAa (Bo×Bool)
 |0,_=>none
 |m+1,s=>CAn Zd Rq (oG m) s
def zO:Zp:=EA3 Zd Rq (oG AY)
def HBI:Avb:=fy u2 zO AUx AEm [NAx,LAk] Tryz.func49 JBb CAn EA3 oG
def FA3 (h:AyR) (i:Xz) (j:X0) (m:Avp) (n:Zp) (o:Avo):Tz:=fun l d=>mk ((h d).bind fun e=>cond (!e) (some (Mc,[],false)) ((i d SI).bind fun a=>(j l a.1).bind fun b=>m.bind fun f=>(n f b.1).bind fun c=>cond (!c.2) (some (Mc,[],false)) ((o d QI).bind fun g=>cond (Jw g) (cond (KZ b.2 (Awq a.1)) (cond (Hf b.2 (Awq a.1)) (some (c.1,LAw a.1 b.2,true)) none) (some (c.1,[⟨4,QI,Awp,Awp⟩],true))) (cond (KZ b.2 (Awq a.1)) (cond (Hf b.2 (Awq a.1)) (some (c.1,[⟨1,QI,Ayg a.1 b.2,Awp⟩,⟨2,QI,Awp,Awp⟩,⟨3,QI,Awp,SI⟩],true)) none) (some (c.1,[],true))))))
def fC:Tz:=FA3 Xr nM nP Axn zO sJ
def GA3:Avb:=BI u2 fC AUy AUz [UAk,CBI,DBI,iZ,HBI,GAy] Tryz.func52 FA3
inductive MAa where
 |c0 (a:Int) (b:Ap)
def KBb:MAa->Avm
 |.c0 b a=>(tdo Tryz.f87 208,[vp 1 64,vi 3 b],[(64,.var [.str a.BO,.bool a.CZ,.BG 90 a.Bc.Ak,.str a.AU.Bv,li a.AU.DU,.BG 76 a.AU.AZ,li a.AU.BM,.str a.AU.Dh,li a.AU.fCount,.BG 127 a.BP,.BG 157 a.BD,li a.CW])])
def HA3 (b:Qk) (c:Va) (k:Aw7 MAa Bool):Qn:=fun a=>k (.c0 0 a)
def DAn (a:Qk) (b:Va) (k:Aw7 MAa Bool):Aw7 MAa Bool
 |.c0 c d=>mk (cond (Av9 c (NS d)) (cond (Fa c (NS d)) ((a (La d) (Pq (Qe d) c).fId).bind fun e=>cond (!e.2) (some false) (cond ((Nb e.1) != 2) (some false) (cond (Fa c (NS d)) ((b (Pq (Qe d) c).fNext 0 e.1.fNext).bind fun f=>cond (!f) (some false) (cond (AzC c) (cond (Ayf (AyV c) (NS d:Int)) (cond (Fa c (NS d)) (cond (Avi ((Qe d).getD (Ic (c - 1)) OAj).fId (Pq (Qe d) c).fId) (some false) (k (.c0 (NM c) d))) none) none) (k (.c0 (NM c) d)))) none))) none) (some true))
def oH:AzH MAa Bool
 |0,_=>none
 |m+1,s=>DAn TU AzN (oH m) s
def zQ:Qn:=HA3 TU AzN (oH AY)
def LBb:Avb:=fy u1 zQ RD E8 [uG,AzY] Tryz.func87 KBb DAn HA3 oH
inductive OAa where
 |c0 (a:Int) (b:Ap)
def MBb:OAa->Avm
 |.c0 b a=>(tdo Tryz.f44 464,[vp 1 64,vi 3 b],[(64,.var [.str a.BO,.bool a.CZ,.BG 90 a.Bc.Ak,.str a.AU.Bv,li a.AU.DU,.BG 76 a.AU.AZ,li a.AU.BM,.str a.AU.Dh,li a.AU.fCount,.BG 127 a.BP,.BG 157 a.BD,li a.CW])])
def IA3 (d:AyR) (e:Va) (f:Avp) (g:WS) (h:Tz) (i:AyW) (j:Qn) (k:Aw7 OAa Bool):Qn:=fun a=>mk (cond ((Awq a.BO) != 32) (some false) ((d a.Bc).bind fun b=>cond (!b) (some false) (cond ((Me a:Int) > 3) (some false) ((e (Gy a) 0 1000).bind fun c=>cond (!c) (some false) (k (.c0 0 a))))))
def EAn (a:AyR) (b:Va) (c:Avp) (d:WS) (e:Tz) (f:AyW) (g:Qn) (k:Aw7 OAa Bool):Aw7 OAa Bool
 |.c0 i h=>mk (cond (Av9 i (Me h)) (cond (Fa i (Me h)) ((b (Vl (Qd h) i ⟨0,false⟩).fId 1 (Gy h)).bind fun l=>cond (!l) (some false) (cond (AzC i) (cond (Ayf (AyV i) (Me h:Int)) (cond (Fa i (Me h)) (cond (Avi ((Qd h).getD (Ic (i - 1)) (⟨0,false⟩:EG)).fId (Vl (Qd h) i ⟨0,false⟩).fId) (some false) (k (.c0 (NM i) h))) none) none) (k (.c0 (NM i) h)))) none) (Axg (!h.CZ) (Axg (Ayy (Me h:Int)) (Axg (Ayy (NS h:Int)) (c.bind fun m=>O8 (d (La h) m)) (some false)) (some false)) ((e h.BO h.Bc).bind fun j=>Axg j.2.2 (Axg (Ayy (SG j.2.1)) (Awc (f (La h)) (Awc (d j.1 (La h)) (O8 (g h)) (some false)) (some false)) (some false)) (some false))))
def oJ:AzH OAa Bool
 |0,_=>none
 |m+1,s=>EAn Xr AzN Axn oC fC iG zQ (oJ m) s
def oI:Qn:=IA3 Xr AzN Axn oC fC iG zQ (oJ AY)
def IBI:Avb:=fy u1 oI RD E8 [UAk,AzY,iZ,GBI,GA3,JBG,LBb] Tryz.func44 MBb EAn IA3 oJ
def JA3 (e:Qn) (f:Tz) (g:WQ):uw:=fun a=>mk (cond a.CZ (some (⟨Awp,false,IZ,Mc,[],[],0⟩,false)) ((e a).bind fun d=>cond (!d) (some (⟨Awp,false,IZ,Mc,[],[],0⟩,false)) ((f a.BO a.Bc).bind fun b=>(g a.Bc b.2.1).bind fun c=>cond (!b.2.2) (some (⟨Awp,false,IZ,Mc,[],[],0⟩,false)) (cond (KZ c.2 (SG b.2.1)) (some (⟨Awp,false,IZ,Mc,[],[],0⟩,false)) (some (⟨a.BO,true,c.1,b.1,[],[],0⟩,true))))))
def zS:uw:=JA3 oI fC sS
def NBb:Avb:=BI u1 zS RD AEn [IBI,GA3,LAy] Tryz.func77 JA3
def FAn (e:X5) (g:uw) (d:SH):X5:=fun a f c=>mk (cond (!c.JY) (Un (e a f c)) ((g a.AX).bind fun b=>cond (!b.2) (Un (d a 1 Awp)) (Un (d ⟨b.1,a.Bq,He a,F9 a,a.CO⟩ 0 Awp))))
def Av8:X5:=FAn Vs zS XG
def JBI:Avb:=BI u3 Av8 AUv VB [HBb,NBb,CAz] Tryz.func35 FAn [0]
inductive QAa where
 |c0 (a b:Int) (d e:Int) (f g:AA) (h i j:AA) (l:Bool) (n:AA) (o p:Int) (q:AA) (t u:Int) (v w:(List DW)) (x:(List BQ)) (y:(List Af)) (aa:(List EG)) (ab:(List CS)) (ac:(List Int)) (ad:(List AA)) (ae:(List D8)) (af:(List Ah))
def OBb:QAa->Avm
 |.c0 a b d e f g h i j l n o p q t u v w x y aa ab ac ad ae af=>(tdo Tryz.f26 4048,[vp 0 0,vp 4 256,vp 5 320,vp 6 384,vi 8 a,vi 9 b],[(0,.var [.J4,li d,li e]),(256,.var [.str f,.str g,.own 1016386]),(320,.var [.str h,.str i,.own 1020482]),(384,.var [.str j,.bool l,.own 1024578,.str n,li o,.own 1024581,li p,.str q,li t,.own 1024585,.own 1024586,li u,.own 1024588,.own 1024589,.own 1024590,.own 1024591]),(1016386,.sl 72 v),(1020482,.sl 72 w),(1024578,.sl 90 x),(1024581,.sl 76 y),(1024585,.sl 127 aa),(1024586,.sl 157 ab),(1024588,.sl 3 ac),(1024589,.sl 9 ad),(1024590,.sl 48 ae),(1024591,.sl 78 af)])
def KA3 (d:AxN) (f:Zr) (g:uF) (h:XAi) (i:X5) (k:Aw7 QAa (PO×DZ)):MAv:=fun e j=>mk ((d (AzU e) 3).bind fun b=>(f 32 (w8 (Ayv (75+b.1)))).bind fun c=>(g c ⟨#[119]⟩).bind fun a=>cond ((Ayv (8+(Ayv ((Aw3 KI).tdiv 12)))) > 39) (k (.c0 39 0 b.2.fI b.2.AyA Awp Awp c ⟨#[119]⟩ (AyU a.1) (Ayd a.1) (Ay0 a.1) (Qp a.1) (NV a.1) (AxA a.1) (Ju a.1) (Axy a.1) [] [] (O4 a.1) (Gt a.1) (O6 a.1) (O7 a.1) a.1.Bq (He a.1) (F9 a.1) a.1.CO)) (k (.c0 (Ayv (8+(Ayv ((Aw3 KI).tdiv 12)))) 0 b.2.fI b.2.AyA Awp Awp c ⟨#[119]⟩ (AyU a.1) (Ayd a.1) (Ay0 a.1) (Qp a.1) (NV a.1) (AxA a.1) (Ju a.1) (Axy a.1) [] [] (O4 a.1) (Gt a.1) (O6 a.1) (O7 a.1) a.1.Bq (He a.1) (F9 a.1) a.1.CO)))
def GAn (a:AxN) (b:Zr) (c:uF) (d:XAi) (e:X5) (k:Aw7 QAa (PO×DZ)):Aw7 QAa (PO×DZ)
 |.c0 l i o p q r m n t u w x z A B E s j v y C D F G H I=>mk (cond (KZ i l) ((d ⟨(),o,p⟩ ⟨⟨t,u,⟨v⟩,⟨w,x,y,z,A,B⟩,C,D,E⟩,F,G,H,I⟩).bind fun h=>cond ((Awq h.1.BA.fText) > 1000) ((e h.2.2 i (HAw h)).bind fun f=>cond (FC ((j.length+1)*96)) (k (.c0 l (NM i) h.2.1.fI h.2.1.AyA q r m n (AyU f) (Ayd f) (Ay0 f) (Qp f) (NV f) (AxA f) (Ju f) (Axy f) s (j++[(HAw h:DW)]) (O4 f) (Gt f) (O6 f) (O7 f) f.Bq (He f) (F9 f) f.CO)) none) ((e h.2.2 i h.1).bind fun g=>cond (FC ((j.length+1)*96)) (k (.c0 l (NM i) h.2.1.fI h.2.1.AyA q r m n (AyU g) (Ayd g) (Ay0 g) (Qp g) (NV g) (AxA g) (Ju g) (Axy g) s (j++[h.1]) (O4 g) (Gt g) (O6 g) (O7 g) g.Bq (He g) (F9 g) g.CO)) none)) (some (⟨m,n,j⟩,⟨(),o,p⟩)))
def ZE:AzH QAa (PO×DZ)
 |0,_=>none
 |m+1,s=>GAn AyT gV fF yB Av8 (ZE m) s
def HAn:MAv:=KA3 AyT gV fF yB Av8 (ZE AY)
def PBb:Avb:=fy u2 HAn Aep Aeq [jO,WBF,TBG,EBX,JBI] Tryz.func26 OBb GAn KA3 ZE [0]
def LA3 (c:BAv) (d:MAv):NAv:=fun e=>mk ((c ()).bind fun b=>(d (AzU b) ()).bind fun a=>some (a.1.BO,a.1.Bv,a.1.wG))
def IAn:NAv:=LA3 XAj HAn
def QBb:Avb:=BI u1 IAn wY Aer [JBV,PBb] Tryz.func7 LA3
def KBI:Azb:=mk (Md JAw)
def MA3:Azb:=KBI
def RBb:Avb:=BI u0 MA3 Yc AEe [] Tryz.func63 KBI
def NA3:AzI:=fun a=>mk (AxL ((PAj a) && (FC ((Axd a)*1))) (AxU (SV a)))
def ZJ:AzI:=NA3
def JAn:Avb:=BI u1 ZJ FN Cc [] Tryz.func89 NA3
def OA3:AzI:=fun a=>mk (AxU [w8 (WZ a (24:Int)),w8 (WZ a (16:Int)),w8 (WZ a (8:Int)),w8 a])
def Xt:AzI:=OA3
def KAn:Avb:=BI u1 Xt UG Cc [] Tryz.func110 OA3
def PA3 (c:AzI):AzI:=fun d=>mk ((c (w32 (Qs d (Vx (32:Int))))).bind fun a=>(c (w32 d)).bind fun b=>AxL (LZ a b) (some (a++b)))
def LAn:AzI:=PA3 Xt
def SBb:Avb:=BI u1 LAn FN Cc [KAn] Tryz.func109 PA3
def QA3 (d e:AzI):AzI:=fun c=>mk ((d ((Ayv (119 - (c.tmod 64))).tmod 64)).bind fun a=>AxL (LZ (Ax6 ⟨#[128]⟩) a) ((e (Ayv (8*c))).bind fun b=>AxL (Awg (Ax6 ⟨#[128]⟩) a b) (some (((Ax6 ⟨#[128]⟩)++a)++b))))
def MAn:AzI:=QA3 ZJ LAn
def TBb:Avb:=BI u1 MAn FN Cc [JAn,SBb] Tryz.func64 QA3
def RA3:Je:=fun b a=>mk (cond (Av7 (Ay8 (32 - (QAj a)))) (some (w32 (aO AwM (w32 (b*(Nj (Axd (QAj a)) AwM))) (WZ b (Ay8 (32 - (QAj a))))))) none)
def NAn:Je:=RA3
def UBb:Avb:=BI u2 NAn AU0 UG [] Tryz.func221 RA3
def SA3 (b:Je):Je:=fun c d=>mk ((b c (Ayv (0 - d))).bind fun a=>some a)
def AwN:Je:=SA3 NAn
def LBI:Avb:=BI u2 AwN AU0 UG [UBb] Tryz.func159 SA3
inductive RAa where
 |c0 (d:AA) (e:Int) (a b:(List Int))
 |c1 (d:AA) (f e g:Int) (a b:(List Int))
 |c2 (h:Int) (a b:(List Int))
def VBb:RAa->Avm
 |.c0 d e a b=>(tdo Tryz.f158 232,[vs 0 d,vp 2 128,vp 3 192,vi 11 e],[(128,.ar 108 a),(192,.ar 108 b)])
 |.c1 d f e g a b=>(tdo Tryz.f158 59800,[vs 0 d,vp 2 128,vp 3 192,vi 4 f,vi 11 e,vi 14 g],[(128,.ar 108 a),(192,.ar 108 b)])
 |.c2 h a b=>(tdo Tryz.f158 976,[vp 2 128,vp 3 192,vi 6 h],[(128,.ar 108 a),(192,.ar 108 b)])
def TA3 (b:Je) (k:Aw7 RAa (List Int)):Ayz:=fun a=>mk (k (.c0 a 0 (List.replicate 64 Qa) (List.replicate 64 Qa)))
def Zg (a:Je) (k:Aw7 RAa (List Int)):Aw7 RAa (List Int)
 |.c0 e b c d=>mk (cond (b<16) (k (.c1 e b b 0 c d)) (k (.c2 16 c d)))
 |.c1 e c f d g b=>mk (cond (d<4) (cond (AzL b) (cond (Fb c b) (cond (Ayf (AxZ (Ayv (4*c)) d) (Awq e)) (cond (AzL b) (cond (Fb c b) (k (.c1 e c f (NM d) g (b.set (Axd c) (w32 (aO AwM (w32 ((GZ b c)*(Nj (Axd (8:Int)) AwM))) (w32 (bt e (AxZ (Ayv (4*c)) d)))))))) none) none) none) none) none) (k (.c0 e (NM f) g b)))
 |.c2 c h b=>mk (cond (c<64) (cond (AzL b) (cond (Av1 (c - 15) b) (cond (AzL b) (cond (Av1 (c - 2) b) ((a (AzV b (c - 15)) 7).bind fun d=>(a (AzV b (c - 15)) 18).bind fun e=>(a (AzV b (c - 2)) 17).bind fun f=>(a (AzV b (c - 2)) 19).bind fun g=>cond (AzL b) (cond (Av1 (c - 7) b) (cond (AzL b) (cond (Av1 (c - 16) b) (cond (AzL b) (cond (Fb c b) (k (.c2 (NM c) h (b.set (Axd c) (w32 ((w32 ((w32 ((Us AwM (Us AwM f g) (Qs (AzV b (c - 2)) (Nj (Axd (10:Int)) AwM)))+(AzV b (c - 7))))+(Us AwM (Us AwM d e) (Qs (AzV b (c - 15)) (Nj (Axd (3:Int)) AwM)))))+(AzV b (c - 16))))))) none) none) none) none) none) none) none) none) none) none) (JG (AzL b) (JG ((Awz b h) && (AzL b)) (JG ((AzL b) && true) (Md b)))))
def Qv:AzH RAa (List Int)
 |0,_=>none
 |m+1,s=>Zg AwN (Qv m) s
def SAa:Ayz:=TA3 AwN (Qv AY)
def WBb:Avb:=fy u1 SAa Cc AEe [LBI] Tryz.func158 VBb Zg TA3 Qv
inductive TAa where
 |c0 (d e:Int) (f g:Int) (h i:Int) (j l n:Int) (a b o:(List Int))
 |c1 (p:Int) (a b q:(List Int))
def XBb:TAa->Avm
 |.c0 d e f g h i j l n a b o=>(tdo Tryz.f108 488,[vp 2 128,vp 4 256,vp 5 320,(6,[.one (.int .u32 d)]),(7,[.one (.int .u32 e)]),(8,[.one (.int .u32 f)]),(9,[.one (.int .u32 g)]),(10,[.one (.int .u32 h)]),(11,[.one (.int .u32 i)]),(12,[.one (.int .u32 j)]),(13,[.one (.int .u32 l)]),vi 37 n],[(128,.ar 108 a),(256,.ar 108 b),(320,.ar 108 o)])
 |.c1 p a b q=>(tdo Tryz.f108 2024,[vp 2 128,vp 4 256,vp 17 1088,vi 109 p],[(128,.ar 108 a),(256,.ar 108 b),(1088,.ar 108 q)])
def UA3 (c:Ayz) (e:Je) (k:Aw7 TAa (List Int)):EAj:=fun a d=>mk ((c d).bind fun b=>cond ((Awz b (List.replicate 64 Qa)) && (AzL b)) (cond (Jy a) (cond (AxR a) (cond (Jy a) (cond (XAV (Aw3 a)) (cond (Jy a) (cond (TAV (Aw3 a)) (cond (Jy a) (cond ((Av2 Qa (3:Int)) && (decide (3<(Aw3 a)))) (cond (Jy a) (cond (UAV a) (cond (Jy a) (cond ((Av2 Qa (5:Int)) && (decide (5<(Aw3 a)))) (cond (Jy a) (cond ((Av2 Qa (6:Int)) && (decide (6<(Aw3 a)))) (cond (Jy a) (cond ((Av2 Qa (7:Int)) && (decide (7<(Aw3 a)))) (k (.c0 (GZ a Qa) (GZ a AwX) (GZ a (2:Int)) (GZ a (3:Int)) (GZ a QM) (GZ a (5:Int)) (GZ a (6:Int)) (GZ a (7:Int)) 0 a [0,0,0,0,0,0,0,0] b)) none) none) none) none) none) none) none) none) none) none) none) none) none) none) none) none) none)
def UAa (a:Ayz) (b:Je) (k:Aw7 TAa (List Int)):Aw7 TAa (List Int)
 |.c0 e i j s d g h o c t u f=>mk (cond (c<64) ((b d 6).bind fun l=>(b d 11).bind fun m=>(b d 25).bind fun n=>cond (Fa c (64:Nat)) (cond (Nat.blt (Axd c) 64) (cond (AzL f) (cond (Fb c f) ((b e 2).bind fun p=>(b e 13).bind fun q=>(b e 22).bind fun r=>k (.c0 (w32 ((w32 ((w32 ((w32 ((w32 (o+(Us AwM (Us AwM l m) n)))+(jF (QG AwM d g) (QG AwM (w32 ((BitVec.toNat ((BitVec.ofInt AwM (ite ((IntKind.signed IntKind.u32) = true) (-AwX) (IntKind.max IntKind.u32))) ^^^ (BitVec.ofInt AwM d)):Nat):Int)) h))))+(GZ BAw c)))+(GZ f c)))+(w32 ((Us AwM (Us AwM p q) r)+(jF (Oi AwM (w32 (QG AwM e i)) (w32 (QG AwM e j))) (QG AwM i j)))))) e i j (w32 (s+(w32 ((w32 ((w32 ((w32 (o+(Us AwM (Us AwM l m) n)))+(jF (QG AwM d g) (QG AwM (w32 ((BitVec.toNat ((BitVec.ofInt AwM (ite ((IntKind.signed IntKind.u32) = true) (-AwX) (IntKind.max IntKind.u32))) ^^^ (BitVec.ofInt AwM d)):Nat):Int)) h))))+(GZ BAw c)))+(GZ f c))))) d g h (NM c) t u f)) none) none) none) none) (k (.c1 0 t u [e,i,j,s,d,g,h,o])))
 |.c1 d e f c=>mk (cond (d<8) (cond (Jy c) (cond (Fb d c) (cond (Jy e) (cond (Fb d e) (cond (Jy c) (cond (Fb d c) (k (.c1 (NM d) e f (c.set (Axd d) (w32 ((GZ c d)+(GZ e d)))))) none) none) none) none) none) none) (JG (Jy c) (JG ((Awz c f) && (Jy c)) (JG ((Jy c) && true) (Md c)))))
def Uo:AzH TAa (List Int)
 |0,_=>none
 |m+1,s=>UAa SAa AwN (Uo m) s
def VAa:EAj:=UA3 SAa AwN (Uo AY)
def YBb:Avb:=fy u2 VAa AKl AEe [WBb,LBI] Tryz.func108 XBb UAa UA3 Uo
inductive WAa where
 |c0 (a:AA) (b d:(List Int))
def ZBb:WAa->Avm
 |.c0 a b d=>(tdo Tryz.f62 96,[vs 1 a,vp 2 128,vp 4 256],[(128,.ar 108 b),(256,.ar 108 d)])
def VA3 (c:EAj) (k:Aw7 WAa (List Int×AA)):OAv:=fun b a=>k (.c0 a b [0,0,0,0,0,0,0,0])
def OAn (a:EAj) (k:Aw7 WAa (List Int×AA)):Aw7 WAa (List Int×AA)
 |.c0 c b e=>mk (cond ((Awq c)>=64) (cond (Jy b) (cond ((Av2 Qa (64:Int)) && (decide (64<=(Awq c)))) ((a b (Ayg c (64:Int))).bind fun d=>cond ((Awz d b) && (Jy d)) (cond ((Av2 Qa (64:Int)) && (decide (64<=(Awq c)))) (k (.c0 (QJ c (64:Int)) d e)) none) none) none) none) (cond (Jy b) (cond ((Awz b e) && (Jy b)) (cond ((Jy b) && true) (some (b,c)) none) none) none))
def sV:AzH WAa (List Int×AA)
 |0,_=>none
 |m+1,s=>OAn VAa (sV m) s
def PAn:OAv:=VA3 VAa (sV AY)
def Ap6:Avb:=fy u2 PAn AKl AKl [YBb] Tryz.func62 ZBb OAn VA3 sV
inductive XAa where
 |c0 (a:AA) (b:(List Int)) (d:Int)
def BBc:XAa->Avm
 |.c0 a b d=>(tdo Tryz.f65 232,[vs 3 a,(6,[.arr 108 b]),vi 7 d],[])
def WA3 (b:AzI) (k:Aw7 XAa AA):Avk:=fun a=>mk (cond (Jy a) (k (.c0 Awp a 0)) none)
def XA3 (a:AzI) (k:Aw7 XAa AA):Aw7 XAa AA
 |.c0 e c b=>mk (cond (b<8) (cond (Jy c) (cond (Fb b c) ((a (GZ c b)).bind fun d=>cond (LZ e d) (k (.c0 (e++d) c (NM b))) none) none) none) (some e))
def YAa:AzH XAa AA
 |0,_=>none
 |m+1,s=>XA3 Xt (YAa m) s
def QAn:Avk:=WA3 Xt (YAa AY)
def CBc:Avb:=fy u1 QAn AEe Cc [KAn] Tryz.func65 BBc XA3 WA3 YAa
def YA3 (e:Azb) (f:AzI) (g:OAv) (h:Avk):AwT:=fun c=>mk (e.bind fun d=>(f (Awq c)).bind fun b=>AxL (LZ c b) ((g d (c++b)).bind fun a=>AxL ((Nat.beq a.1.length 8) && (Jy a.1)) (AxL (Jy a.1) (Ax9 (h a.1)))))
def J9:AwT:=YA3 MA3 MAn PAn QAn
def TW:Avb:=BI u1 J9 Cc Cc [RBb,TBb,Ap6,CBc] Tryz.func30 YA3
def ZA3 (c:AwT) (d:AzI):Avp:=mk ((c Awp).bind fun a=>(d 32).bind fun b=>some ⟨a,0,[],0,b,0⟩)
def Uh:Avp:=ZA3 J9 ZJ
def uD:Avb:=BI u0 Uh Yc AEk [TW,JAn] Tryz.func46 ZA3
inductive ZAa where
 |c0 (a:Int) (b:(List Int))
def DBc:ZAa->Avm
 |.c0 a b=>(tdo Tryz.f144 224,[vi 0 a,vo 3 240],[(240,.sl 5 b)])
def MBI (k:Aw7 ZAa AA):AzI:=fun a=>k (.c0 a [])
def RAn (k:Aw7 ZAa AA):Aw7 ZAa AA
 |.c0 a b=>mk (cond (a > 127) (cond (OW b) (k (.c0 (Ayv (a.tdiv 128)) (b++[w8 (Ayv (128+(a.tmod 128)))]))) none) (AxL (OW b) (AxU (b++[w8 a]))))
def tN:AzH ZAa AA
 |0,_=>none
 |m+1,s=>RAn (tN m) s
def Xw:AzI:=MBI (tN AY)
def jP:Avb:=fy u1 Xw FN Cc [] Tryz.func144 DBc RAn MBI tN
def NBI:Va:=fun a b c=>mk (Axg (Avi a b) (some (Av2 a c)) (some false))
def Gx:Va:=NBI
def KY:Avb:=BI u3 Gx AVC E8 [] Tryz.func82 NBI
def AR8 (c:Va):AwZ:=fun a=>mk ((c a.fId 1 1000).bind fun b=>Axg (!b) (some false) ((c a.fNext 0 16).bind fun d=>Axg (!d) (some false) (Axg ((Nb a) != 2) (Axg (a.fNext != 0) (some false) (Axg (GU a) (some false) (Axg ((Nb a) != 1) (Axg (AwY a) (some false) (HAV a (Nb a) (U2 (Oc a)) ((Nb a) == 3) (uy a) (some false))) (HAV a (Nb a) (U2 (Oc a)) ((Nb a) == 3) (uy a) (some false))))) (Axg ((Nb a) != 1) (Axg (AwY a) (some false) (HAV a (Nb a) (U2 (Oc a)) ((Nb a) == 3) (uy a) (some false))) (HAV a (Nb a) (U2 (Oc a)) ((Nb a) == 3) (uy a) (some false))))))
def Xv:AwZ:=AR8 Gx
def ADM:Avb:=BI u1 Xv S9 E8 [KY] Tryz.func133 AR8
def BA4:AzI:=fun a=>mk (AxU [w8 a])
def KP:AzI:=BA4
def Wi:Avb:=BI u1 KP FN Cc [] Tryz.func146 BA4
inductive BAb where
 |c0 (a b d:Int) (e:(List Bool))
def EBc:BAb->Avm
 |.c0 a b d e=>(tdo Tryz.f212 232,[vi 3 a,vo 14 944,vi 15 b,vi 16 d],[(944,.sl 4 e)])
def CA4 (k:Aw7 BAb Int):PAv:=fun a=>mk (k (.c0 0 ((4:Nat):Int) 0 [AzT a,Awk a,GU a,AwY a]))
def OBI (k:Aw7 BAb Int):Aw7 BAb Int
 |.c0 d c a b=>mk (cond (KZ a c) (cond (Fa a b.length) (cond (b.getD (Axd a) false) (cond (Av7 a) (k (.c0 (Ayv (aO Qh d (Ayv (1*(Vx a))))) c (NM a) b)) none) (k (.c0 d c (NM a) b))) none) (some d))
def SAn:AzH BAb Int
 |0,_=>none
 |m+1,s=>OBI (SAn m) s
def TAn:PAv:=CA4 (SAn AY)
def FBc:Avb:=fy u1 TAn S9 FN [] Tryz.func212 EBc OBI CA4 SAn
def DA4 (c:AzI):AwT:=fun b=>mk ((c (Awq b)).bind fun a=>AxL (LZ a b) (some (a++b)))
def UAn:AwT:=DA4 Xw
def GBc:Avb:=BI u1 UAn Cc Cc [jP] Tryz.func213 DA4
def EA4 (l:AwZ) (h i:AzI) (m:PAv) (n:AwT):Td:=fun a=>mk ((l a).bind fun g=>cond (!g) (MZ (Awp,false)) ((h a.fId).bind fun b=>(i (Nb a)).bind fun c=>FK (LZ b c) ((m a).bind fun j=>(i j).bind fun d=>FK (Awg b c d) ((n (Oc a)).bind fun e=>FK (Awg (b++c) d e) ((h a.fNext).bind fun f=>FK (Awg ((b++c)++d) e f) (MZ ((((b++c)++d)++e)++f,true)))))))
def tV:Td:=EA4 Xv Xw KP TAn UAn
def FA4:Avb:=BI u1 tV S9 IQ [ADM,jP,Wi,FBc,GBc] Tryz.func145 EA4
def GA4 (j:AzI) (m:Va) (o:Td) (b:AzI):Tf:=fun a=>mk (cond (a.Aj == 1) (cond (!(U2 a.fText)) (MZ (Awp,false)) (cond (!((Wh a.Aj) && (((X8 a.fText) == (X8 a.fText)) && ((Ayy a.DR) && (((Ayy (Awt a).fId) && ((Ayy (Nb (Awt a))) && (((AzT (Awt a)) == false) && (((Awk (Awt a)) == false) && (((GU (Awt a)) == false) && (((AwY (Awt a)) == false) && ((jK a) && ((Ayy (Awt a).fNext) && true)))))))) && true))))) (MZ (Awp,false)) ((b a.Aj).bind fun d=>FK (LZ d a.fText) (MZ (d++a.fText,true))))) (cond (a.Aj == 2) ((j a.DR).bind fun e=>(m a.DR 0 3).bind fun l=>cond (!l) (MZ (Awp,false)) (cond (!((Wh a.Aj) && ((Aww a.fText Awp) && ((Wh a.DR) && (((Ayy (Awt a).fId) && ((Ayy (Nb (Awt a))) && (((AzT (Awt a)) == false) && (((Awk (Awt a)) == false) && (((GU (Awt a)) == false) && (((AwY (Awt a)) == false) && ((jK a) && ((Ayy (Awt a).fNext) && true)))))))) && true))))) (MZ (Awp,false)) ((b a.Aj).bind fun f=>FK (LZ f e) (MZ (f++e,true))))) (cond (a.Aj == 3) ((o (Awt a)).bind fun c=>cond (!c.2) (MZ (Awp,false)) (cond (!((Wh a.Aj) && ((Aww a.fText Awp) && ((Ayy a.DR) && (((Wh (Awt a).fId) && ((Wh (Nb (Awt a))) && (((AzT (Awt a)) == (AzT (Awt a))) && (((Awk (Awt a)) == (Awk (Awt a))) && (((GU (Awt a)) == (GU (Awt a))) && (((AwY (Awt a)) == (AwY (Awt a))) && (((X8 (Oc (Awt a))) == (X8 (Oc (Awt a)))) && ((Wh (Awt a).fNext) && true)))))))) && true))))) (MZ (Awp,false)) ((b a.Aj).bind fun g=>FK (LZ g c.1) (MZ (g++c.1,true))))) (cond (a.Aj == 4) ((j a.DR).bind fun h=>(m a.DR 1 1000).bind fun n=>cond (!n) (MZ (Awp,false)) (cond (!((Wh a.Aj) && ((Aww a.fText Awp) && ((Wh a.DR) && (((Ayy (Awt a).fId) && ((Ayy (Nb (Awt a))) && (((AzT (Awt a)) == false) && (((Awk (Awt a)) == false) && (((GU (Awt a)) == false) && (((AwY (Awt a)) == false) && ((jK a) && ((Ayy (Awt a).fNext) && true)))))))) && true))))) (MZ (Awp,false)) ((b a.Aj).bind fun i=>FK (LZ i h) (MZ (i++h,true))))) (MZ (Awp,false))))))
def tX:Tf:=GA4 Xw Gx tV KP
def HA4:Avb:=BI u1 tX AVD IQ [jP,KY,FA4,Wi] Tryz.func97 GA4
def IA4 (d:Va) (e:AzI):FAj:=fun b=>mk ((d b 0 1000000000).bind fun a=>cond (!a) (MZ (Awp,false)) ((e b).bind fun c=>MZ (c,true)))
def CAb:FAj:=IA4 Gx Xw
def IBc:Avb:=BI u1 CAb FN IQ [KY,jP] Tryz.func254 IA4
inductive DAb where
 |c0 (a b d:Int) (e:(List Int))
def JBc:DAb->Avm
 |.c0 a b d e=>(tdo Tryz.f286 232,[(1,[.one (.int .u8 a)]),vo 5 368,vi 10 b,vi 11 d],[(368,.sl 5 e)])
def JA4 (k:Aw7 DAb AA):WT:=fun a b=>mk (cond (Q5 a) (k (.c0 b (Aw3 (AzB a)) 0 (AzB a))) none)
def VAn (k:Aw7 DAb AA):Aw7 DAb AA
 |.c0 d c a b=>mk (cond (KZ a c) (cond (Fb a b) (cond (Fb a b) (k (.c0 d c (NM a) (b.set (Axd a) (w8 (Oi QH (GZ b a) d))))) none) none) (AxU b))
def pV:AzH DAb AA
 |0,_=>none
 |m+1,s=>VAn (pV m) s
def pU:WT:=JA4 (pV AY)
def KBc:Avb:=fy u2 pU AVG Cc [] Tryz.func286 JBc VAn JA4 pV
def KA4 (b:AwT) (d:AzI) (e:WT):AxG:=fun a f=>mk (cond ((Awq a) > 64) ((b a).bind fun c=>KAw d c e f b) (KAw d a e f b))
def pX:AxG:=KA4 J9 ZJ pU
def PBI:Avb:=BI u2 pX KJ Cc [TW,JAn,KBc] Tryz.func255 KA4
inductive EAb where
 |c0 (a:AA) (b:Int) (d e:AA) (f:Int)
def LBc:EAb->Avm
 |.c0 a b d e f=>(tdo Tryz.f198 2000,[vs 0 a,vi 2 b,vs 8 d,vs 10 e,vi 11 f],[])
def LA4 (d:FAj) (f:Va) (h:AzI) (i:AxG) (k:Aw7 EAb (AA×Bool)):Zt:=fun g e c=>mk ((d e).bind fun a=>cond (!a.2) (MZ (Awp,false)) ((f c 0 8000).bind fun b=>cond (!b) (MZ (Awp,false)) (k (.c0 g c a.1 Awp 0))))
def WAn (a:FAj) (b:Va) (c:AzI) (d:AxG) (k:Aw7 EAb (AA×Bool)):Aw7 EAb (AA×Bool)
 |.c0 l f g e j=>mk (cond (KZ (Awq e) f) (cond (LZ jH g) ((c j).bind fun h=>cond (Awg jH g h) ((d l ((jH++g)++h)).bind fun i=>cond (LZ e i) (k (.c0 l f g (e++i) (NM j))) none) none) none) (FK (Hf f (Awq e)) (MZ (Ayg e f,true))))
def pY:AzH EAb (AA×Bool)
 |0,_=>none
 |m+1,s=>WAn CAb Gx KP pX (pY m) s
def FAb:Zt:=LA4 CAb Gx KP pX (pY AY)
def QBI:Avb:=fy u3 FAb wR IQ [IBc,KY,Wi,PBI] Tryz.func198 LBc WAn LA4 pY
inductive GAb where
 |c0 (a:AA) (b d:Int) (e:(List Int))
def MBc:GAb->Avm
 |.c0 a b d e=>(tdo Tryz.f200 232,[vs 1 a,vo 5 368,vi 10 b,vi 11 d],[(368,.sl 5 e)])
def MA4 (k:Aw7 GAb AA):AxG:=fun a b=>mk (cond (Q5 a) (k (.c0 b (Aw3 (AzB a)) 0 (AzB a))) none)
def XAn (k:Aw7 GAb AA):Aw7 GAb AA
 |.c0 c d a b=>mk (cond (KZ a d) (cond (Fb a b) (cond (Ayf a (Awq c)) (cond (Fb a b) (k (.c0 c d (NM a) (b.set (Axd a) (w8 (Oi QH (GZ b a) (bt c a)))))) none) none) none) (AxU b))
def pq:AzH GAb AA
 |0,_=>none
 |m+1,s=>XAn (pq m) s
def HAb:AxG:=MA4 (pq AY)
def RBI:Avb:=fy u2 HAb KJ Cc [] Tryz.func200 MBc XAn MA4 pq
def NA4 (d:AzI) (f:AxG):Zu:=fun g e c=>mk ((d e).bind fun a=>AxL (LZ QK a) (AxL (Awg QK a c) ((f g ((QK++a)++c)).bind fun b=>AxL ((Av2 Qa (16:Int)) && (decide (16<=(Awq b)))) (some (Ayg b (16:Int))))))
def IAb:Zu:=NA4 Xw pX
def SBI:Avb:=BI u3 IAb VA Cc [jP,PBI] Tryz.func199 NA4
def OA4 (g:Zt) (h:AxG) (i:Zu):Pn:=fun d e f=>mk ((g d e (Awq f)).bind fun b=>cond (!b.2) (MZ (Awp,false)) ((h f b.1).bind fun a=>(i d e a).bind fun c=>FK (LZ a c) (MZ (a++c,true))))
def JAb:Pn:=OA4 FAb HAb IAb
def TBI:Avb:=BI u3 JAb VA IQ [QBI,RBI,SBI] Tryz.func155 OA4
inductive KAb where
 |c0 (a:Int) (b:AA) (d:Int)
 |c1 (a:Int) (b:AA) (d e:Int)
def NBc:KAb->Avm
 |.c0 a b d=>(tdo Tryz.f253 208,[(0,[.one (.int .u32 a)]),vs 1 b,vi 5 d],[])
 |.c1 a b d e=>(tdo Tryz.f253 13464,[(0,[.one (.int .u32 a)]),vs 1 b,vi 5 d,vi 19 e],[])
def PA4 (k:Aw7 KAb Int):uJ:=fun a b=>k (.c0 a b 0)
def pJ (k:Aw7 KAb Int):Aw7 KAb Int
 |.c0 c b a=>mk (cond (KZ a (Awq b)) (cond (Ayf a (Awq b)) (k (.c1 (Us AwM c (w32 (bt b a))) b a 0)) none) (some c))
 |.c1 a c d b=>mk (cond (b<8) (cond ((w32 (WY AwM a)) == 1) (k (.c1 (w32 ((BitVec.toNat ((BitVec.ofInt AwM (WZ a AwX)) ^^^ (BitVec.ofInt AwM 3558460437)):Nat):Int)) c d (NM b))) (k (.c1 (WZ a AwX) c d (NM b)))) (k (.c0 a c (NM d))))
def V3:AzH KAb Int
 |0,_=>none
 |m+1,s=>pJ (V3 m) s
def YAn:uJ:=PA4 (V3 AY)
def OBc:Avb:=fy u2 YAn AVH UG [] Tryz.func253 NBc pJ PA4 V3
def QA4 (b:uJ):Zv:=fun c=>(b 4294967295 c).bind fun a=>some a
def pR:Zv:=QA4 YAn
def UBI:Avb:=BI u1 pR Cc UG [OBc] Tryz.func197 QA4
def RA4 (f:Va) (g:AzI) (h:Zv) (i:AzI):Ti:=fun a=>mk ((f (Awq a) 1 9000).bind fun d=>cond (!d) (MZ (Awp,false)) ((g (Awq a)).bind fun b=>(h a).bind fun e=>(i e).bind fun c=>FK (LZ b c) (FK (Awg b c a) (MZ ((b++c)++a,true)))))
def qA:Ti:=RA4 Gx Xw pR Xt
def VBI:Avb:=BI u1 qA Cc IQ [KY,jP,UBI,KAn] Tryz.func139 RA4
def SA4 (f:Tf) (h:Va) (i:Pn) (l:Ti):Xy:=fun j e g=>mk ((f g).bind fun a=>cond (!a.2) (some ([],false)) ((h e 0 10000).bind fun d=>cond (!d) (some ([],false)) ((i j (NM e) a.1).bind fun b=>(l b.1).bind fun c=>cond (!b.2) (some ([],false)) (cond (!c.2) (some ([],false)) (some ([⟨1,SI,c.1,Awp⟩,⟨2,SI,Awp,Awp⟩],true))))))
def LAb:Xy:=SA4 tX Gx JAb qA
def WBI:Avb:=BI u3 LAb AVI AVJ [HA4,KY,TBI,VBI] Tryz.func106 SA4
def TA4:Xx:=fun a=>mk (cond (FC ((Awa a)*40)) (some a) none)
def V9:Xx:=TA4
def MAb:Avb:=BI u1 V9 AKp jo [] Tryz.func156 TA4
inductive NAb where
 |c0 (a:AA) (b:(List BQ)) (d e:Int)
def PBc:NAb->Avm
 |.c0 a b d e=>(tdo Tryz.f93 104,[vs 1 a,vr 8 90 b,vi 9 d,vi 10 e],[])
def UA4 (k:Aw7 NAb Int):Avo:=fun a b=>mk (k (.c0 b a.Ak (Awa a:Int) 0))
def ZAn (k:Aw7 NAb Int):Aw7 NAb Int
 |.c0 d b c a=>mk (cond (KZ a c) (cond (Fa a b.length) (cond (Aww (Qi b a).fName d) (some a) (k (.c0 d b c (NM a)))) none) U4)
def pI:AzH NAb Int
 |0,_=>none
 |m+1,s=>ZAn (pI m) s
def fK:Avo:=UA4 (pI AY)
def AJ0:Avb:=fy u2 fK wS FN [] Tryz.func93 PBc ZAn UA4 pI
inductive OAb where
 |c0 (a:(List BQ)) (b d:Int) (e:BU)
def QBc:OAb->Avm
 |.c0 a b d e=>(tdo Tryz.f81 104,[vp 1 64,vr 6 90 a,vi 7 b,vi 8 d],[(64,.var [.BG 90 e.Ak])])
def VA4 (b:Va) (k:Aw7 OAb Bool):AyR:=fun a=>mk (k (.c0 a.Ak (Awa a:Int) 0 a))
def BAo (a:Va) (k:Aw7 OAb Bool):Aw7 OAb Bool
 |.c0 c e b d=>mk (cond (KZ b e) (cond (Fa b c.length) ((a (Awq (Qi c b).fName) 1 8).bind fun f=>cond (!f) (some false) (cond ((Eh c b) > 20000) (some false) ((a (Si c b) 0 (Eh c b)).bind fun g=>cond (!g) (some false) (cond (AzC b) (cond (Ayf (AyV b) (Awa d:Int)) (cond (!(uz (Qi d.Ak (AyV b)) (Qi c b))) (some false) (k (.c0 c e (NM b) d))) none) (k (.c0 c e (NM b) d)))))) none) (some (decide ((Awa d:Int)<=30))))
def o9:AzH OAb Bool
 |0,_=>none
 |m+1,s=>BAo Gx (o9 m) s
def XY:AyR:=VA4 Gx (o9 AY)
def CAo:Avb:=fy u1 XY AKp E8 [KY] Tryz.func81 QBc BAo VA4 o9
def WA4 (c:Avo):Zw:=fun b d=>mk ((c b d).bind fun a=>cond (Jw a) (cond (Hf a (Awa b:Int)) (cond (FC ((aI b.Ak a).length*40)) (cond (Hf (NM a) (Awa b:Int)) (cond (FC (((aI b.Ak a).length+((b.Ak.drop (QE a)).take ((Awa b) - (QE a))).length)*40)) (some ⟨(aI b.Ak a)++((b.Ak.drop (QE a)).take ((Awa b) - (QE a)))⟩) none) none) none) none) (some b))
def qg:Zw:=WA4 fK
def XBI:Avb:=BI u2 qg Aes jo [AJ0] Tryz.func220 WA4 [0]
inductive PAb where
 |c0 (a:Int) (b:BQ) (d:(List BQ))
def RBc:PAb->Avm
 |.c0 b a d=>(tdo Tryz.f219 480,[vp 0 0,vp 3 192,vi 4 b],[(0,.var [.own 1000000]),(192,.var [.str a.fName,.str a.fText,li a.J3]),(1000000,.sl 90 d)])
def XA4 (c:Zw) (k:Aw7 PAb BU):uK:=fun d b=>(c d b.fName).bind fun a=>k (.c0 0 b a.Ak)
def DAo (a:Zw) (k:Aw7 PAb BU):Aw7 PAb BU
 |.c0 b d c=>mk (cond (Av9 b c.length) (cond (Fa b c.length) (cond (uz (Qi c b) d) (k (.c0 (NM b) d c)) (DAw b c d)) none) (DAw b c d))
def qh:AzH PAb BU
 |0,_=>none
 |m+1,s=>DAo qg (qh m) s
def EAo:uK:=XA4 qg (qh AY)
def SBc:Avb:=fy u2 EAo Aet jo [XBI] Tryz.func219 RBc DAo XA4 qh [0]
def YA4 (a1:Avo) (d:AyR) (l:Xx) (e:uK) (f:Zw):Zx:=fun c a=>mk ((a1 c a.fName).bind fun b=>O1 (d c) (AyC (IZ,false)) (cond (a.Aj != 1) (cond (Ayn b) (AyC (IZ,false)) (cond (!(Aww a.fText Awp)) (AyC (IZ,false)) (cond (a.Aj != 3) (cond (!(Aww a.I8 Awp)) (AyC (IZ,false)) ((l c).bind fun g=>cond (Jw b) (JD (Qm b c) (cond (Ayh a) (JD (LZ (Ul c b) a.fText) ((e g (YA c b a)).bind fun m=>H6 d m (IZ,false) (m,true))) (cond (Av0 a) ((e g (YB c b)).bind fun n=>H6 d n (IZ,false) (n,true)) (OV a.Aj ((Awi c b) != (Aym c b)) (AyC (IZ,false)) (cond (Oq a) (AyC (IZ,false)) ((f g a.fName).bind fun T=>(e T (YJ a c b)).bind fun o=>H6 d o (IZ,false) (o,true))) (Ayj a) ((f g a.fName).bind fun p=>H6 d p (IZ,false) (p,true)))))) (cond (Ayh a) (JD (YH a) ((e g (YC a)).bind fun q=>H6 d q (IZ,false) (q,true))) (cond (Av0 a) ((e g (YE a)).bind fun r=>H6 d r (IZ,false) (r,true)) (OV a.Aj (Oq a) (AyC (IZ,false)) ((f g a.fName).bind fun U=>(e U (YK a)).bind fun s=>H6 d s (IZ,false) (s,true)) (Ayj a) ((f g a.fName).bind fun t=>H6 d t (IZ,false) (t,true))))))) ((l c).bind fun h=>cond (Jw b) (JD (Qm b c) (cond (Ayh a) (JD (LZ (Ul c b) a.fText) ((e h (YA c b a)).bind fun u=>H6 d u (IZ,false) (u,true))) (cond (Av0 a) ((e h (YB c b)).bind fun v=>H6 d v (IZ,false) (v,true)) (OV a.Aj ((Awi c b) != (Aym c b)) (AyC (IZ,false)) (cond (Oq a) (AyC (IZ,false)) ((f h a.fName).bind fun V=>(e V (YJ a c b)).bind fun w=>H6 d w (IZ,false) (w,true))) (Ayj a) ((f h a.fName).bind fun x=>H6 d x (IZ,false) (x,true)))))) (cond (Ayh a) (JD (YH a) ((e h (YC a)).bind fun y=>H6 d y (IZ,false) (y,true))) (cond (Av0 a) ((e h (YE a)).bind fun z=>H6 d z (IZ,false) (z,true)) (OV a.Aj (Oq a) (AyC (IZ,false)) ((f h a.fName).bind fun W=>(e W (YK a)).bind fun A=>H6 d A (IZ,false) (A,true)) (Ayj a) ((f h a.fName).bind fun B=>H6 d B (IZ,false) (B,true))))))))) (cond (a.Aj != 3) (cond (!(Aww a.I8 Awp)) (AyC (IZ,false)) ((l c).bind fun i=>cond (Jw b) (JD (Qm b c) (cond (Ayh a) (JD (LZ (Ul c b) a.fText) ((e i (YA c b a)).bind fun C=>H6 d C (IZ,false) (C,true))) (cond (Av0 a) ((e i (YB c b)).bind fun D=>H6 d D (IZ,false) (D,true)) (OV a.Aj ((Awi c b) != (Aym c b)) (AyC (IZ,false)) (cond (Oq a) (AyC (IZ,false)) ((f i a.fName).bind fun X=>(e X (YJ a c b)).bind fun E=>H6 d E (IZ,false) (E,true))) (Ayj a) ((f i a.fName).bind fun F=>H6 d F (IZ,false) (F,true)))))) (cond (Ayh a) (JD (YH a) ((e i (YC a)).bind fun G=>H6 d G (IZ,false) (G,true))) (cond (Av0 a) ((e i (YE a)).bind fun H=>H6 d H (IZ,false) (H,true)) (OV a.Aj (Oq a) (AyC (IZ,false)) ((f i a.fName).bind fun Y=>(e Y (YK a)).bind fun I=>H6 d I (IZ,false) (I,true)) (Ayj a) ((f i a.fName).bind fun J=>H6 d J (IZ,false) (J,true))))))) ((l c).bind fun j=>cond (Jw b) (JD (Qm b c) (cond (Ayh a) (JD (LZ (Ul c b) a.fText) ((e j (YA c b a)).bind fun L=>H6 d L (IZ,false) (L,true))) (cond (Av0 a) ((e j (YB c b)).bind fun M=>H6 d M (IZ,false) (M,true)) (OV a.Aj ((Awi c b) != (Aym c b)) (AyC (IZ,false)) (cond (Oq a) (AyC (IZ,false)) ((f j a.fName).bind fun Z=>(e Z (YJ a c b)).bind fun N=>H6 d N (IZ,false) (N,true))) (Ayj a) ((f j a.fName).bind fun O=>H6 d O (IZ,false) (O,true)))))) (cond (Ayh a) (JD (YH a) ((e j (YC a)).bind fun P=>H6 d P (IZ,false) (P,true))) (cond (Av0 a) ((e j (YE a)).bind fun Q=>H6 d Q (IZ,false) (Q,true)) (OV a.Aj (Oq a) (AyC (IZ,false)) ((f j a.fName).bind fun a0=>(e a0 (YK a)).bind fun R=>H6 d R (IZ,false) (R,true)) (Ayj a) ((f j a.fName).bind fun S=>H6 d S (IZ,false) (S,true)))))))))
def QAb:Zx:=YA4 fK XY V9 EAo qg
def TBc:Avb:=BI u2 QAb AVK jq [AJ0,CAo,MAb,SBc,XBI] Tryz.func157 YA4
inductive RAb where
 |c0 (a b:(List Ef)) (d e:Int) (f g:(List BQ))
def UBc:RAb->Avm
 |.c0 a b d e f g=>(tdo Tryz.f107 232,[vr 1 136 a,vp 4 256,vp 6 384,vr 13 136 b,vi 14 d,vi 15 e],[(256,.var [.own 1016384]),(384,.var [.own 1024576]),(1016384,.sl 90 f),(1024576,.sl 90 g)])
def ZA4 (c:Xx) (e:Zx) (k:Aw7 RAb (BU×Int)):WQ:=fun d a=>mk ((c d).bind fun b=>k (.c0 a a (SG a) 0 [] b.Ak))
def FAo (a:Xx) (b:Zx) (k:Aw7 RAb (BU×Int)):Aw7 RAb (BU×Int)
 |.c0 h d g c i f=>mk (cond (KZ c g) (cond (Fa c d.length) ((b ⟨f⟩ (d.getD (Axd c) (⟨0,Awp,Awp,Awp⟩:Ef))).bind fun e=>cond (!e.2) (some (⟨f⟩,c)) (k (.c0 h d g (NM c) i e.1.Ak))) none) (some (⟨f⟩,SG h)))
def qo:AzH RAb (BU×Int)
 |0,_=>none
 |m+1,s=>FAo V9 QAb (qo m) s
def qm:WQ:=ZA4 V9 QAb (qo AY)
def ASP:Avb:=fy u2 qm AVL AVM [MAb,TBc] Tryz.func107 UBc FAo ZA4 qo
inductive SAb where
 |c0 (a:(List Af)) (b d:Int) (e:Bo)
def VBc:SAb->Avm
 |.c0 b d e a=>(tdo Tryz.f83 104,[vp 1 64,vr 6 76 b,vi 7 d,vi 8 e],[(64,.var [.str a.Bv,li a.DU,.BG 76 a.AZ,li a.BM,.str a.Dh,li a.fCount])])
def BA5 (b:AwZ) (c:Va) (k:Aw7 SAb Bool):AyW:=fun a=>mk (k (.c0 (Awf a) (ND a) 0 a))
def GAo (a:AwZ) (b:Va) (k:Aw7 SAb Bool):Aw7 SAb Bool
 |.c0 e f d c=>mk (cond (KZ d f) (cond (Fa d e.length) ((a (Eb e d ⟨0,0,false,false,false,false,Awp,0⟩)).bind fun g=>cond (!g) (some false) (cond (Ayt (Eb e d ⟨0,0,false,false,false,false,Awp,0⟩).fId c.BM) (some false) (cond (AzC d) (cond (Ayf (AyV d) (ND c)) (cond (Avi (Eb (Awf c) (AyV d) ⟨0,0,false,false,false,false,Awp,0⟩).fId (Eb e d ⟨0,0,false,false,false,false,Awp,0⟩).fId) (some false) (k (.c0 e f (NM d) c))) none) (k (.c0 e f (NM d) c))))) none) (Axg (U2 c.Bv) (Axg (U2 (Tc c)) (Awc (b (Ax5 c) 0 3) (Axg ((ND c)<=8) (Awc (b c.BM 0 1000) (O8 (b c.fCount 0 10000)) (some false)) (some false)) (some false)) (some false)) (some false)))
def iP:AzH SAb Bool
 |0,_=>none
 |m+1,s=>GAo Xv Gx (iP m) s
def tq:AyW:=BA5 Xv Gx (iP AY)
def YBI:Avb:=fy u1 tq AEl E8 [ADM,KY] Tryz.func83 VBc GAo BA5 iP
def CA5:SK:=fun a=>mk (cond (FC ((Aw5 a)*48)) (some a) none)
def iQ:SK:=CA5
def DA5:Avb:=BI u1 iQ AEl AEk [] Tryz.func88 CA5
inductive TAb where
 |c0 (a:Int) (b:(List Af)) (d e:Int)
def WBc:TAb->Avm
 |.c0 a b d e=>(tdo Tryz.f99 104,[vi 1 a,vr 8 76 b,vi 9 d,vi 10 e],[])
def ZBI (k:Aw7 TAb Int):EAV:=fun a b=>mk (k (.c0 b (Awf a) (ND a) 0))
def HAo (k:Aw7 TAb Int):Aw7 TAb Int
 |.c0 d b c a=>mk (cond (KZ a c) (cond (Fa a b.length) (cond ((Eb b a ⟨0,0,false,false,false,false,Awp,0⟩).fId == d) (some a) (k (.c0 d b c (NM a)))) none) U4)
def iR:AzH TAb Int
 |0,_=>none
 |m+1,s=>HAo (iR m) s
def UAb:EAV:=ZBI (iR AY)
def EA5:Avb:=fy u2 UAb AKo FN [] Tryz.func99 WBc HAo ZBI iR
def FA5:ig:=fun b a=>mk (Axg ((Nb a) == (Nb b)) (Axg (Aww (Oc a) (Oc b)) (Axg ((GU a) == (GU b)) (Axg ((AwY a) == (AwY b)) (Axg (Avi a.fNext b.fNext) (Axg (AzT a) (Axg (Awk a) (some true) (some (!(Awk b)))) (Axg (!(AzT b)) (Axg (Awk a) (some true) (some (!(Awk b)))) (some false))) (some false)) (some false)) (some false)) (some false)) (some false))
def IAo:ig:=FA5
def XBc:Avb:=BI u2 IAo AVE E8 [] Tryz.func147 FA5
def GA5 (e:EAV) (f:ig):QAv:=fun a c=>mk ((e a c.fId).bind fun b=>cond (Jw b) (cond (Fa b (Aw5 a)) ((f (Eb (Awf a) b ⟨0,0,false,false,false,false,Awp,0⟩) c).bind fun d=>cond (!d) (some (false,a)) (cond (Fa b (Aw5 a)) (some (true,⟨a.Bv,Ax5 a,(Awf a).set (Axd b) c,a.BM,Tc a,a.fCount⟩)) none)) none) (cond (c.fId != (NM a.BM)) (some (false,a)) (cond ((ND a)>=8) (some (false,a)) (cond (FC (((Aw5 a)+1)*48)) (some (true,⟨a.Bv,Ax5 a,(Awf a)++[c],c.fId,Tc a,a.fCount⟩)) none))))
def JAo:QAv:=GA5 UAb IAo
def YBc:Avb:=BI u2 JAo Aeu Aev [EA5,XBc] Tryz.func98 GA5 [0]
def HA5 (o:Tf) (p:AyW) (q:SK) (r:QAv) (s:EAV) (g:AwT):AxE:=fun a d=>mk ((o d).bind fun c=>(p a).bind fun h=>cond (!h) (some (Mc,false)) (cond (!c.2) (some (Mc,false)) (cond (a.fCount>=10000) (some (Mc,false)) ((q a).bind fun b=>cond (d.Aj == 1) (cond (Axa a c) ((g ((Tc a)++c.1)).bind fun i=>some (⟨d.fText,0,Awf b,b.BM,i,PI b⟩,true)) none) (cond (d.Aj == 2) (cond (Axa a c) ((g ((Tc a)++c.1)).bind fun j=>some (⟨b.Bv,d.DR,Awf b,b.BM,j,PI b⟩,true)) none) (cond (d.Aj == 3) ((r b (Awt d)).bind fun f=>cond (!f.1) (some (Mc,false)) (cond (Axa a c) ((g ((Tc a)++c.1)).bind fun l=>some (⟨f.2.Bv,Ax5 f.2,Awf f.2,f.2.BM,l,PI f.2⟩,true)) none)) (cond (d.Aj == 4) ((s a d.DR).bind fun e=>cond (Ayn e) (some (Mc,false)) (cond (Hf e (ND a)) (cond (FC ((((Awf a).take (Axd e)).drop 0).length*48)) (cond (Hf (NM e) (ND a)) (cond (FC (((((Awf a).take (Axd e)).drop 0).length+(((Awf a).take (Aw5 a)).drop (QE e)).length)*48)) (cond (Axa a c) ((g ((Tc a)++c.1)).bind fun m=>some (⟨b.Bv,Ax5 b,(((Awf a).take (Axd e)).drop 0)++(((Awf a).take (Aw5 a)).drop (QE e)),b.BM,m,PI b⟩,true)) none) none) none) none) none)) (cond (Axa a c) ((g ((Tc a)++c.1)).bind fun n=>some (⟨b.Bv,Ax5 b,Awf b,b.BM,n,PI b⟩,true)) none))))))))
def Zk:AxE:=HA5 tX tq iQ JAo UAb J9
def IA5:Avb:=BI u2 Zk AVF AEm [HA4,YBI,DA5,YBc,EA5,TW] Tryz.func53 HA5
def JA5 (f:Xy) (g:WQ) (h:AxE):FAV:=fun a e=>mk ((f a.BO (SL a) e).bind fun b=>(g a.Bc b.1).bind fun c=>(h (La a) e).bind fun d=>cond (!b.2) (some (false,a)) (cond (!d.2) (some (false,a)) (cond (KZ c.2 (SG b.1)) (some (false,a)) (some (true,⟨a.BO,a.CZ,c.1,d.1,Qd a,Qe a,Gy a⟩)))))
def XU:FAV:=JA5 LAb qm Zk
def AaE:Avb:=BI u2 XU Aew Aex [WBI,ASP,IA5] Tryz.func60 JA5 [0]
def KA5 (f:Avp) (g:AwT) (h:FAV):iY:=fun a b=>mk (cond ((Awq a) != 32) (some (⟨Awp,false,IZ,Mc,[],[],0⟩,false)) (cond ((Awq b) > 20) (some (⟨Awp,false,IZ,Mc,[],[],0⟩,false)) (f.bind fun c=>(g b).bind fun d=>(h ⟨a,true,IZ,c,[],[],0⟩ ⟨1,d,0,⟨0,0,false,false,false,false,Awp,0⟩⟩).bind fun e=>some (e.2,true))))
def zT:iY:=KA5 Uh J9 XU
def ZBc:Avb:=BI u2 zT KJ AEn [uD,TW,AaE] Tryz.func28 KA5
def LA5 (b:Va):X4:=fun a=>mk (Awc (b a.Au 1 13) (Awc (b (Ay1 a) 0 1000) (Awc (b a.Ag 0 1000) (Awc (b a.Aj 0 3) (some (decide ((Awq a.fText)<=1000))) (some false)) (some false)) (some false)) (some false))
def WAb:X4:=LA5 Gx
def BBJ:Avb:=BI u1 WAb AKm E8 [KY] Tryz.func61 LA5
def MA5 (b:X4):Zn:=fun a=>mk (Awc (b a.BA) (some (decide ((Aw3 a.Lc)<=30))) (Axg a.JY (Axg ((Ayy a.BA.Au) && ((Ayy (Ay1 a.BA)) && ((Ayy a.BA.Ag) && ((Ayy a.BA.Aj) && ((Aww a.BA.fText Awp) && ((a.BA.CY == false) && ((a.BA.CX == false) && true))))))) (some (decide ((Aw3 a.Lc)<=30))) (some false)) (some false)))
def zW:Zn:=MA5 WAb
def AmZ:Avb:=BI u1 zW AU1 E8 [BBJ] Tryz.func29 MA5
inductive YAb where
 |c0 (a b:(List Af)) (d e:Int)
def BBd:YAb->Avm
 |.c0 a b d e=>(tdo Tryz.f90 232,[vr 0 76 a,vr 1 76 b,vi 12 d,vi 13 e],[])
def NA5 (k:Aw7 YAb Bool):RAv:=fun a b=>cond ((a.length:Int) != (b.length:Int)) (some false) (k (.c0 a b (a.length:Int) 0))
def KAo (k:Aw7 YAb Bool):Aw7 YAb Bool
 |.c0 b c d a=>mk (cond (KZ a d) (cond (Fa a b.length) (cond (Fa a c.length) (cond (!(((Eb b a ⟨0,0,false,false,false,false,Awp,0⟩).fId == (Eb c a ⟨0,0,false,false,false,false,Awp,0⟩).fId) && (((Nb (Eb b a ⟨0,0,false,false,false,false,Awp,0⟩)) == (Nb (Eb c a ⟨0,0,false,false,false,false,Awp,0⟩))) && (((AzT (Eb b a ⟨0,0,false,false,false,false,Awp,0⟩)) == (AzT (Eb c a ⟨0,0,false,false,false,false,Awp,0⟩))) && (((Awk (Eb b a ⟨0,0,false,false,false,false,Awp,0⟩)) == (Awk (Eb c a ⟨0,0,false,false,false,false,Awp,0⟩))) && (((GU (Eb b a ⟨0,0,false,false,false,false,Awp,0⟩)) == (GU (Eb c a ⟨0,0,false,false,false,false,Awp,0⟩))) && (((AwY (Eb b a ⟨0,0,false,false,false,false,Awp,0⟩)) == (AwY (Eb c a ⟨0,0,false,false,false,false,Awp,0⟩))) && ((Aww (Oc (Eb b a ⟨0,0,false,false,false,false,Awp,0⟩)) (Oc (Eb c a ⟨0,0,false,false,false,false,Awp,0⟩))) && (((Eb b a ⟨0,0,false,false,false,false,Awp,0⟩).fNext == (Eb c a ⟨0,0,false,false,false,false,Awp,0⟩).fNext) && true))))))))) (some false) (k (.c0 b c d (NM a)))) none) none) (some true))
def pF:AzH YAb Bool
 |0,_=>none
 |m+1,s=>KAo (pF m) s
def LAo:RAv:=NA5 (pF AY)
def CBd:Avb:=fy u2 LAo Aey E8 [] Tryz.func90 BBd KAo NA5 pF
def OA5 (c:RAv):WS:=fun a b=>mk (Axg (Aww a.Bv b.Bv) (Axg ((Ax5 a) == (Ax5 b)) (Awc (c (Awf a) (Awf b)) (Axg (a.BM == b.BM) (Axg (Aww (Tc a) (Tc b)) (some (a.fCount == b.fCount)) (some false)) (some false)) (some false)) (some false)) (some false))
def pG:WS:=OA5 LAo
def CBJ:Avb:=BI u2 pG AUw E8 [CBd] Tryz.func47 OA5
def PA5 (c:Avo):Xz:=fun b d=>mk ((c b d).bind fun a=>cond (Ayn a) (MZ (Awp,false)) (FK (Qm a b) (MZ (Ul b a,true))))
def zu:Xz:=PA5 fK
def DBJ:Avb:=BI u2 zu wS IQ [AJ0] Tryz.func91 PA5
inductive ADZ where
 |c0 (a:AA) (b d e:Int)
def DBd:ADZ->Avm
 |.c0 a b d e=>(tdo Tryz.f196 976,[vs 0 a,vi 1 b,vi 7 d,vi 8 e],[])
def BAc (d:Va) (k:Aw7 ADZ (Int×Int×Bool)):SS:=fun c b=>mk ((d b 0 (Awq c)).bind fun a=>cond (!a) (some (0,0,false)) (k (.c0 c b 0 0)))
def MAo (a:Va) (k:Aw7 ADZ (Int×Int×Bool)):Aw7 ADZ (Int×Int×Bool)
 |.c0 d c e b=>mk (cond (b<5) (cond (KZ (AxZ c b) (Awq d)) (cond (Ayf (AxZ c b) (Awq d)) (cond (Av7 (Ayv (7*b))) (cond ((Vk d (AxZ c b))<128) (cond (Ayy (Vk d (AxZ c b))) (cond (AzC b) (some (0,0,false)) (cond ((vC e d c b) > 1000000000) (some (0,0,false)) (some (vC e d c b,NM (AxZ c b),true)))) (cond ((vC e d c b) > 1000000000) (some (0,0,false)) (some (vC e d c b,NM (AxZ c b),true)))) (k (.c0 d c (vC e d c b) (NM b)))) none) none) (some (0,0,false))) (some (0,0,false)))
def Ut:AzH ADZ (Int×Int×Bool)
 |0,_=>none
 |m+1,s=>MAo Gx (Ut m) s
def O0:SS:=BAc Gx (Ut AY)
def NAo:Avb:=fy u2 O0 Q9 AVQ [KY] Tryz.func196 DBd MAo BAc Ut
inductive CAc where
 |c0 (a:AA) (b:Int) (d:(List AA))
def EBd:CAc->Avm
 |.c0 a b d=>(tdo Tryz.f136 496,[vs 0 a,vo 4 304,vi 5 b],[(304,.sl 9 d)])
def QA5 (b:SS) (c:Va) (d:Zv) (e:AzI) (k:Aw7 CAc (List AA×Int)):aF:=fun a=>mk (cond ((Awq a) > 20000) (some ([],0)) (k (.c0 a 0 [])))
def RA5 (a:SS) (b:Va) (c:Zv) (d:AzI) (k:Aw7 CAc (List AA×Int)):Aw7 CAc (List AA×Int)
 |.c0 f h g=>mk ((a f h).bind fun e=>cond (!e.2.2) (some (g,h)) ((b e.1 1 9000).bind fun i=>cond (!i) (some (g,h)) (cond (Ayt e.1 (Ayv ((Aw9 (Awq f) e.2.1) - 4))) (some (g,h)) (cond (Om (Ayv (e.2.1+4)) (Ayv (U3 e)) (Awq f)) (cond (Om e.2.1 (Ayv (e.2.1+4)) (Awq f)) ((c (f.extract (Ic (e.2.1+4)) (Ic (U3 e)))).bind fun j=>(d j).bind fun l=>cond (!(Aww (Vj f e.2.1 (e.2.1+4)) l)) (some (g,h)) (cond (AxW g) (k (.c0 f (Ayv (U3 e)) (g++[f.extract (Ic (e.2.1+4)) (Ic (U3 e))]))) none)) none) none))))
def zy:AzH CAc (List AA×Int)
 |0,_=>none
 |m+1,s=>RA5 O0 Gx pR Xt (zy m) s
def zx:aF:=QA5 O0 Gx pR Xt (zy AY)
def FBd:Avb:=fy u1 zx Cc AUq [NAo,KY,UBI,KAn] Tryz.func136 EBd RA5 QA5 zy
def SA5 (g:Zt) (h:Zu) (i:AxG):Pn:=fun c d a=>mk (cond (Ayn (Ayv ((Awq a) - 16))) (MZ (Awp,false)) ((g c d (Ayv ((Awq a) - 16))).bind fun b=>cond (!b.2) (MZ (Awp,false)) (FK (WAV a) ((h c d (aP a)).bind fun e=>FK (WAV a) (cond (!(Aww e (a.extract (Ic ((Awq a) - 16)) a.size))) (MZ (Awp,false)) (FK (WAV a) ((i (aP a) b.1).bind fun f=>MZ (f,true))))))))
def pz:Pn:=SA5 FAb IAb HAb
def EBJ:Avb:=BI u3 pz VA IQ [QBI,SBI,RBI] Tryz.func137 SA5
def OAo (c:SS):SAv:=fun a=>(c a.fText a.ER).bind fun b=>cond (!b.2.2) (some (0,⟨a.fText,a.ER,true⟩)) (some (b.1,⟨a.fText,b.2.1,a.I7⟩))
def tJ:SAv:=OAo O0
def GBd:Avb:=BI u1 tJ AU2 Aez [NAo] Tryz.func225 OAo [0]
def FAc (c:SS):GAj:=fun b d=>mk ((c b d).bind fun a=>cond (!a.2.2) (some (Awp,0,false)) (cond (a.1 > 20000) (some (Awp,0,false)) (cond (Ayt a.1 (Aw9 (Awq b) a.2.1)) (some (Awp,0,false)) (cond (Om a.2.1 (AxZ a.2.1 a.1) (Awq b)) (some (Vj b a.2.1 (a.2.1+a.1),AxZ a.2.1 a.1,true)) none))))
def Xm:GAj:=FAc O0
def FBJ:Avb:=BI u2 Xm Q9 AU3 [NAo] Tryz.func223 FAc
def PAo (c:GAj):TAv:=fun a=>mk ((c a.fText a.ER).bind fun b=>cond (!b.2.2) (some (Awp,⟨a.fText,a.ER,true⟩)) (some (b.1,⟨a.fText,b.2.1,a.I7⟩)))
def tK:TAv:=PAo Xm
def HBd:Avb:=BI u1 tK AU2 Ae0 [FBJ] Tryz.func226 PAo [0]
def QAo (b:SAv) (i:TAv) (j:Td):Z4:=fun h=>mk ((b ⟨h,0,false⟩).bind fun a=>(b a.2).bind fun c=>(b c.2).bind fun d=>(i d.2).bind fun e=>(b e.2).bind fun f=>(j (EAw a c d e f)).bind fun g=>cond f.2.I7 (some (⟨0,0,false,false,false,false,Awp,0⟩,false)) (cond (!g.2) (some (⟨0,0,false,false,false,false,Awp,0⟩,false)) (cond (!(Aww g.1 h)) (some (⟨0,0,false,false,false,false,Awp,0⟩,false)) (some (EAw a c d e f,true)))))
def V7:Z4:=QAo tJ tK tV
def GBJ:Avb:=BI u1 V7 Cc Yb [GBd,HBd,FA4] Tryz.func165 QAo
def iO (h:Z4) (i:SS) (c:Tf):aG:=fun a=>mk (cond (Aww a Awp) (some (⟨0,Awp,0,⟨0,0,false,false,false,false,Awp,0⟩⟩,false)) (cond (WR Qa (Awq a)) (cond ((Ayv (bt a 0)) == 1) (cond (RAV a) ((c ⟨Ayv (bt a 0),QJ a AwX,0,⟨0,0,false,false,false,false,Awp,0⟩⟩).bind fun b=>cond (!b.2) (some (⟨0,Awp,0,⟨0,0,false,false,false,false,Awp,0⟩⟩,false)) (cond (!(Aww b.1 a)) (some (⟨0,Awp,0,⟨0,0,false,false,false,false,Awp,0⟩⟩,false)) (some (⟨Ayv (bt a 0),QJ a AwX,0,⟨0,0,false,false,false,false,Awp,0⟩⟩,true)))) none) (cond ((Ayv (bt a 0)) == 3) (cond (RAV a) ((h (QJ a AwX)).bind fun d=>(c ⟨Ayv (bt a 0),Awp,0,d.1⟩).bind fun e=>cond (!e.2) (some (⟨0,Awp,0,⟨0,0,false,false,false,false,Awp,0⟩⟩,false)) (cond (!(Aww e.1 a)) (some (⟨0,Awp,0,⟨0,0,false,false,false,false,Awp,0⟩⟩,false)) (some (⟨Ayv (bt a 0),Awp,0,d.1⟩,true)))) none) ((i a 1).bind fun f=>(c ⟨Ayv (bt a 0),Awp,f.1,⟨0,0,false,false,false,false,Awp,0⟩⟩).bind fun g=>cond (!g.2) (some (⟨0,Awp,0,⟨0,0,false,false,false,false,Awp,0⟩⟩,false)) (cond (!(Aww g.1 a)) (some (⟨0,Awp,0,⟨0,0,false,false,false,false,Awp,0⟩⟩,false)) (some (⟨Ayv (bt a 0),Awp,f.1,⟨0,0,false,false,false,false,Awp,0⟩⟩,true)))))) none))
def Ux:aG:=iO V7 O0 tX
def IBd:Avb:=BI u1 Ux Cc AUr [GBJ,NAo,HA4] Tryz.func138 iO
inductive GAc where
 |c0 (a:AA) (b d e:Int) (f:(List Ah)) (g:(List AA))
def JBd:GAc->Avm
 |.c0 a b d e f g=>(tdo Tryz.f92 1000,[vs 0 a,vo 8 560,vi 9 b,vo 23 1520,vi 24 d,vi 25 e],[(560,.sl 78 f),(1520,.sl 9 g)])
def TA5 (b:aF) (e:Pn) (f:aG) (g:Ti) (k:Aw7 GAc (List Ah×Int)):X0:=fun d c=>mk ((b c).bind fun a=>k (.c0 d 0 (FD a.1) 0 [] a.1))
def RAo (a:aF) (b:Pn) (c:aG) (d:Ti) (k:Aw7 GAc (List Ah×Int)):Aw7 GAc (List Ah×Int)
 |.c0 m h l e f g=>mk (cond (KZ e l) (cond (NZ e g) ((b m (NM e) (Jf g e Awp)).bind fun i=>(c i.1).bind fun j=>cond (!i.2) (some (f,h)) (cond (!j.2) (some (f,h)) (cond (iV f) ((d (Jf g e Awp)).bind fun n=>k (.c0 m (AxZ h (Awq n.1)) l (NM e) (f++[j.1]) g)) none))) none) (some (f,h)))
def qB:AzH GAc (List Ah×Int)
 |0,_=>none
 |m+1,s=>RAo zx pz Ux qA (qB m) s
def HAc:X0:=TA5 zx pz Ux qA (qB AY)
def HBJ:Avb:=fy u2 HAc KJ AUs [FBd,EBJ,IBd,VBI] Tryz.func92 JBd RAo TA5 qB
inductive IAc where
 |c0 (a:(List Ah)) (b d:Int) (e:AA) (f g:Int) (h:AA) (i:Int) (j:AA) (l n:Int) (o:AA) (p:Int) (q t:(List Af))
def KBd:IAc->Avm
 |.c0 a b d e f g h i j l n o p q t=>(tdo Tryz.f45 232,[vp 4 256,vp 6 384,vr 13 78 a,vi 14 b,vi 15 d],[(256,.var [.str e,li f,.own 1016386,li g,.str h,li i]),(384,.var [.str j,li l,.own 1024578,li n,.str o,li p]),(1016386,.sl 76 q),(1024578,.sl 76 t)])
def UA5 (c:SK) (e:AxE) (k:Aw7 IAc (Bo×Bool)):Zp:=fun d b=>mk ((c d).bind fun a=>k (.c0 b (QD b) 0 Awp 0 0 Awp 0 a.Bv (Ax5 a) a.BM (Tc a) a.fCount [] (Awf a)))
def SAo (a:SK) (b:AxE) (k:Aw7 IAc (Bo×Bool)):Aw7 IAc (Bo×Bool)
 |.c0 e f d n o p q r g h j l m s i=>mk (cond (KZ d f) (cond (QF d e) ((b ⟨g,h,i,j,l,m⟩ (GR e d Awp ⟨0,0,false,false,false,false,Awp,0⟩)).bind fun c=>cond (!c.2) (some (Mc,false)) (k (.c0 e f (NM d) n o p q r c.1.Bv (Ax5 c.1) c.1.BM (Tc c.1) c.1.fCount s (Awf c.1)))) none) (some (⟨g,h,i,j,l,m⟩,true)))
def qC:AzH IAc (Bo×Bool)
 |0,_=>none
 |m+1,s=>SAo iQ Zk (qC m) s
def JAc:Zp:=UA5 iQ Zk (qC AY)
def IBJ:Avb:=fy u2 JAc AUx AEm [DA5,IA5] Tryz.func45 KBd SAo UA5 qC
def VA5 (h:Xz) (i:X0) (l:Avp) (m:Zp) (n:AyR) (o:Avo):Tz:=fun j d=>mk ((h d SI).bind fun a=>(i j a.1).bind fun b=>l.bind fun e=>(m e b.1).bind fun c=>(n d).bind fun f=>cond (!f) (some (Mc,[],false)) (cond (!c.2) (some (Mc,[],false)) ((o d QI).bind fun g=>cond (Jw g) (cond (b.2 == (Awq a.1)) (some (c.1,[⟨4,QI,Awp,Awp⟩],true)) (cond (Hf b.2 (Awq a.1)) (some (c.1,LAw a.1 b.2,true)) none)) (cond (b.2 == (Awq a.1)) (some (c.1,[],true)) (cond (Hf b.2 (Awq a.1)) (some (c.1,[⟨1,QI,Ayg a.1 b.2,Awp⟩,⟨2,QI,Awp,Awp⟩,⟨3,QI,Awp,SI⟩],true)) none)))))
def fQ:Tz:=VA5 zu HAc Uh JAc XY fK
def WA5:Avb:=BI u2 fQ AUy AUz [DBJ,HBJ,uD,IBJ,CAo,AJ0] Tryz.func48 VA5
def XA5 (c:EAV):Qk:=fun b d=>mk ((c b d).bind fun a=>cond (Ayn a) (some (⟨0,0,false,false,false,false,Awp,0⟩,false)) (cond (Fa a (Aw5 b)) (some (Eb (Awf b) a ⟨0,0,false,false,false,false,Awp,0⟩,true)) none))
def SA:Qk:=XA5 UAb
def KAc:Avb:=BI u2 SA AKo Yb [EA5] Tryz.func54 XA5
inductive LAc where
 |c0 (a:(List CS)) (b d:Int) (e:Ap)
def LBd:LAc->Avm
 |.c0 b d e a=>(tdo Tryz.f84 104,[vp 1 64,vr 8 157 b,vi 9 d,vi 10 e],[(64,.var [.str a.BO,.bool a.CZ,.BG 90 a.Bc.Ak,.str a.AU.Bv,li a.AU.DU,.BG 76 a.AU.AZ,li a.AU.BM,.str a.AU.Dh,li a.AU.fCount,.BG 127 a.BP,.BG 157 a.BD,li a.CW])])
def YA5 (b:Qk) (c:Va) (k:Aw7 LAc Bool):Qn:=fun a=>mk (k (.c0 (Qe a) (NS a:Int) 0 a))
def TAo (a:Qk) (b:Va) (k:Aw7 LAc Bool):Aw7 LAc Bool
 |.c0 d g c e=>mk (cond (KZ c g) (cond (Fa c d.length) ((a (La e) (Pq d c).fId).bind fun f=>cond (!f.2) (some false) (cond ((Nb f.1) != 2) (some false) ((b (Pq d c).fNext 0 f.1.fNext).bind fun h=>cond (!h) (some false) (cond (AzC c) (cond (Ayf (AyV c) (NS e:Int)) (cond (Avi ((Qe e).getD (Ic (c - 1)) OAj).fId (Pq d c).fId) (some false) (k (.c0 d g (NM c) e))) none) (k (.c0 d g (NM c) e)))))) none) (some true))
def qE:AzH LAc Bool
 |0,_=>none
 |m+1,s=>TAo SA Gx (qE m) s
def MAc:Qn:=YA5 SA Gx (qE AY)
def MBd:Avb:=fy u1 MAc RD E8 [KAc,KY] Tryz.func84 LBd TAo YA5 qE
inductive NAc where
 |c0 (a:(List EG)) (b d:Int) (e:Ap)
def NBd:NAc->Avm
 |.c0 b d e a=>(tdo Tryz.f40 488,[vp 1 64,vr 44 127 b,vi 45 d,vi 46 e],[(64,.var [.str a.BO,.bool a.CZ,.BG 90 a.Bc.Ak,.str a.AU.Bv,li a.AU.DU,.BG 76 a.AU.AZ,li a.AU.BM,.str a.AU.Dh,li a.AU.fCount,.BG 127 a.BP,.BG 157 a.BD,li a.CW])])
def ZA5 (e:AyR) (f:Va) (g:Avp) (h:WS) (i:Tz) (j:AyW) (l:Qn) (k:Aw7 NAc Bool):Qn:=fun a=>mk (cond ((Awq a.BO) != 32) (some false) ((e a.Bc).bind fun b=>cond (!b) (some false) ((f (Gy a) 0 1000).bind fun c=>cond (!c) (some false) (cond (!a.CZ) (Axg (Ayy (Me a:Int)) (Axg (Ayy (NS a:Int)) (g.bind fun d=>O8 (h (La a) d)) (some false)) (some false)) (k (.c0 (Qd a) (Me a:Int) 0 a))))))
def OAc (a:AyR) (b:Va) (c:Avp) (d:WS) (e:Tz) (f:AyW) (g:Qn) (k:Aw7 NAc Bool):Aw7 NAc Bool
 |.c0 j m h i=>mk (cond (KZ h m) (cond (Fa h j.length) (cond (h>=3) (some false) ((b (Vl j h ⟨0,false⟩).fId 1 (Gy i)).bind fun n=>cond (!n) (some false) (cond (AzC h) (cond (Ayf (AyV h) (Me i:Int)) (cond (Avi ((Qd i).getD (Ic (h - 1)) (⟨0,false⟩:EG)).fId (Vl j h ⟨0,false⟩).fId) (some false) (k (.c0 j m (NM h) i))) none) (k (.c0 j m (NM h) i))))) none) ((e i.BO i.Bc).bind fun l=>Awc (f (La i)) (Axg l.2.2 (Axg (Ayy (SG l.2.1)) (Awc (d l.1 (La i)) (O8 (g i)) (some false)) (some false)) (some false)) (some false)))
def qF:AzH NAc Bool
 |0,_=>none
 |m+1,s=>OAc XY Gx Uh pG fQ tq MAc (qF m) s
def XD:Qn:=ZA5 XY Gx Uh pG fQ tq MAc (qF AY)
def ASZ:Avb:=fy u1 XD RD E8 [CAo,KY,uD,CBJ,WA5,YBI,MBd] Tryz.func40 NBd OAc ZA5 qF
def BA6 (e:Qn) (f:Tz) (g:WQ):uw:=fun a=>mk (cond a.CZ (some (⟨Awp,false,IZ,Mc,[],[],0⟩,false)) ((e a).bind fun d=>cond (!d) (some (⟨Awp,false,IZ,Mc,[],[],0⟩,false)) ((f a.BO a.Bc).bind fun b=>(g a.Bc b.2.1).bind fun c=>cond (!b.2.2) (some (⟨Awp,false,IZ,Mc,[],[],0⟩,false)) (cond (KZ c.2 (SG b.2.1)) (some (⟨Awp,false,IZ,Mc,[],[],0⟩,false)) (some (⟨a.BO,true,c.1,b.1,[],[],0⟩,true))))))
def UAo:uw:=BA6 XD fQ qm
def OBd:Avb:=BI u1 UAo RD AEn [ASZ,WA5,ASP] Tryz.func66 BA6
def CA6:SH:=fun a b c=>mk (cond (PD a.Bq) (cond (AxW (He a)) (some ⟨a.AX,a.Bq++[b],(He a)++[c],F9 a,a.CO⟩) none) none)
def Xl:SH:=CA6
def DA6:Avb:=BI u3 Xl AVO VB [] Tryz.func67 CA6 [0]
def EA6 (d:uw) (c:SH):HAj:=fun a=>mk ((d a.AX).bind fun b=>cond (!b.2) (Un (c a 1 Awp)) (Un (c ⟨b.1,a.Bq,He a,F9 a,a.CO⟩ 0 Awp)))
def ZC:HAj:=EA6 UAo Xl
def PBd:Avb:=BI u1 ZC VB VB [OBd,DA6] Tryz.func31 EA6 [0]
def FA6:jA:=fun a=>mk (cond (Fa a (10:Nat)) (some ([],a,Jf [Ax6 Awp,Ax6 jG,Ax6 ⟨#[115,101,115,115,105,111,110]⟩,Ax6 ⟨#[108,111,99,107,101,100]⟩,Ax6 ⟨#[119,111,114,100]⟩,vG,Ax6 SAV,Ax6 ⟨#[110,111,110,101]⟩,Ax6 aK,Ax6 ⟨#[100,111,119,110]⟩] a Awp)) none)
def ZN:jA:=FA6
def PAc:Avb:=BI u1 ZN FN Oh [] Tryz.func111 FA6
def JBJ:AzI:=fun a=>mk (cond (a<10) (AxL (Om a (NM a) (Awq GAw)) (some (GAw.extract (Axd a) (QE a)))) (AxL (Om (Ayv (a*2)) (Ayv ((Ayv (a*2))+2)) (Awq CAw)) (some (CAw.extract (Ic (a*2)) (Ic ((Ayv (a*2))+2))))))
def internal_strconv_small:AzI:=JBJ
def QBd:Avb:=BI u1 internal_strconv_small FN Cc [] Tryz.func288 JBJ
def internal_strconv_numDigits:Ay4:=fun _=>none
def RBd:Avb:=fs u1 internal_strconv_numDigits wX FN 289
def internal_strconv_formatBase10:jB:=fun _ _=>none
def SBd:Avb:=fs u2 internal_strconv_formatBase10 Ae1 Ae2 290
def KBJ:SBF:=fun _ _ _ _ _=>none
def TBd:Avb:=fs u5 KBJ Ae3 Ae4 291
def LBJ (e:AzI) (b:Ay4) (l:jB) (j:SBF):Zr:=fun a c=>mk (cond (c == 10) (cond (Av7 a) (cond (a<100) (Ax9 (e a)) (cond (Ayn a) ((b (Ay8 (0 - (Ay8 a)))).bind fun f=>none) ((b (Ay8 a)).bind fun g=>none))) (cond (Ayn a) ((b (Ay8 (0 - (Ay8 a)))).bind fun h=>none) ((b (Ay8 a)).bind fun i=>none))) ((j [] (Ay8 a) c (Ayn a) false).bind fun d=>some d.2))
def MBJ:Zr:=LBJ internal_strconv_small internal_strconv_numDigits internal_strconv_formatBase10 KBJ
def UBd:Avb:=BI u2 MBJ wP Cc [QBd,RBd,SBd,TBd] Tryz.func259 LBJ
def NBJ (a:Zr):AzI:=fun b=>mk (Ax9 (a b 10))
def internal_strconv_Itoa:AzI:=NBJ MBJ
def VBd:Avb:=BI u1 internal_strconv_Itoa FN Cc [UBd] Tryz.func222 NBJ
def OBJ (a:AzI):AzI:=fun b=>mk (Ax9 (a b))
def strconv_Itoa:AzI:=OBJ internal_strconv_Itoa
def WBd:Avb:=BI u1 strconv_Itoa FN Cc [VBd] Tryz.func160 OBJ
def PBJ (a:AzI):AzI:=fun b=>mk (Ax9 (a b))
def Yr:AzI:=PBJ strconv_Itoa
def GA6:Avb:=BI u1 Yr FN Cc [WBd] Tryz.func112 PBJ
inductive QAc where
 |c0 (a:Int) (b:(List EG)) (d e:Int)
def XBd:QAc->Avm
 |.c0 a b d e=>(tdo Tryz.f113 104,[vi 1 a,vr 8 127 b,vi 9 d,vi 10 e],[])
def HA6 (k:Aw7 QAc Int):Jv:=fun a b=>mk (k (.c0 b (Qd a) (Me a:Int) 0))
def VAo (k:Aw7 QAc Int):Aw7 QAc Int
 |.c0 d b c a=>mk (cond (KZ a c) (cond (Fa a b.length) (cond ((Vl b a ⟨0,false⟩).fId == d) (some a) (k (.c0 d b c (NM a)))) none) U4)
def qH:AzH QAc Int
 |0,_=>none
 |m+1,s=>VAo (qH m) s
def qG:Jv:=HA6 (qH AY)
def QBJ:Avb:=fy u2 qG wU FN [] Tryz.func113 XBd VAo HA6 qH
def IA6 (c:jA) (e:AwT):Rk:=fun a f=>mk (cond ((AwG a)>=3) (AwK (c 3)) ((e f.fText).bind fun d=>cond (!(Aww d (La a).Bv)) ((c 4).bind fun b=>some ([⟨2,Awp,NM (AwG a),⟨0,0,false,false,false,false,Awp,0⟩⟩],b.2.1,b.2.2)) (cond (Ayy (AwG a)) (some ([],0,Awp)) (some ([⟨2,Awp,0,⟨0,0,false,false,false,false,Awp,0⟩⟩],0,Awp)))))
def WAo:Rk:=IA6 ZN J9
def YBd:Avb:=BI u2 WAo bM Oh [PAc,TW] Tryz.func114 IA6
def JA6 (d:AwT):uM:=fun a b=>mk (cond (a == 1) ((d b).bind fun c=>some (⟨0,a,true,false,false,true,c,0⟩,true)) (cond (a == 2) ((d b).bind fun e=>some (⟨0,a,true,false,true,false,e,0⟩,true)) (cond (a == 3) (cond ((Awq b)<=100) (some (⟨0,a,false,false,false,false,b,0⟩,true)) (some (⟨0,0,false,false,false,false,Awp,0⟩,false))) (some (⟨0,0,false,false,false,false,Awp,0⟩,false)))))
def XAo:uM:=JA6 J9
def ZBd:Avb:=BI u2 XAo AKr Yb [TW] Tryz.func161 JA6
def KA6 (e:jA) (c:AzI):Zy:=fun b d a j=>mk (cond (!j) (AwK (e 6)) (cond ((ND (La b))>=8) (AwK (e 1)) (cond ((Qx b)>=1000) (AwK (e 1)) (cond (AzT a) (cond (Awk a) ((c (AyD b)).bind fun f=>some ([⟨3,Awp,0,⟨AyD b,Nb a,true,true,GU a,AwY a,Oc a,a.fNext⟩⟩],0,f)) ((c (AyD b)).bind fun g=>some ([⟨3,Awp,0,⟨AyD b,Nb a,true,d.CX,GU a,AwY a,Oc a,a.fNext⟩⟩],0,g))) (cond (Awk a) ((c (AyD b)).bind fun h=>some ([⟨3,Awp,0,⟨AyD b,Nb a,d.CY,true,GU a,AwY a,Oc a,a.fNext⟩⟩],0,h)) ((c (AyD b)).bind fun i=>some ([⟨3,Awp,0,⟨AyD b,Nb a,d.CY,d.CX,GU a,AwY a,Oc a,a.fNext⟩⟩],0,i)))))))
def RAc:Zy:=KA6 ZN Yr
def RBJ:Avb:=BI u4 RAc AVP Oh [PAc,GA6] Tryz.func162 KA6
def LA6 (h:AzI) (f:uM) (g:Zy):Rk:=fun c a=>mk (cond (a.Aj == 2) ((h (AyD c)).bind fun b=>cond (LZ b jI) (cond (LZ (b++jI) a.fText) ((f a.Aj ((b++jI)++a.fText)).bind fun d=>AwK (g c a d.1 d.2)) none) none) ((f a.Aj a.fText).bind fun e=>AwK (g c a e.1 e.2)))
def YAo:Rk:=LA6 Yr XAo RAc
def Aqs:Avb:=BI u2 YAo bM Oh [GA6,ZBd,RBJ] Tryz.func115 LA6
def MA6 (b:AwT):WU:=fun a=>mk (AxL (LZ vG a.BO) (Ax9 (b (vG++a.BO))))
def SAc:WU:=MA6 J9
def SBJ:Avb:=BI u1 SAc RD Cc [TW] Tryz.func164 MA6
def NA6 (d e:AzI):AwT:=fun b=>mk ((d (Awq b)).bind fun a=>AxL (LZ a b) ((e ((Ayv (16 - ((Awq (a++b)).tmod 16))).tmod 16)).bind fun c=>AxL (Awg a b c) (some ((a++b)++c))))
def TAc:AwT:=NA6 Xw ZJ
def TBJ:Avb:=BI u1 TAc Cc Cc [jP,JAn] Tryz.func224 NA6
def OA6 (d:Pn) (g:GAj) (h:AwT):AxO:=fun e f=>mk ((d e 0 f).bind fun b=>(g b.1 0).bind fun a=>cond (!b.2) (MZ (Awp,false)) (cond (!a.2.2) (MZ (Awp,false)) (cond ((Awq a.1) > 400) (MZ (Awp,false)) ((h a.1).bind fun c=>cond (!(Aww c b.1)) (MZ (Awp,false)) (MZ (a.1,true))))))
def ZAo:AxO:=OA6 pz Xm TAc
def BBe:Avb:=BI u2 ZAo KJ IQ [EBJ,FBJ,TBJ] Tryz.func163 OA6
def UBJ:uN:=fun a=>mk (some ⟨0,Nb a,AzT a,Awk a,false,AwY a,Oc a,0⟩)
def PA6:uN:=UBJ
def CBe:Avb:=BI u1 PA6 S9 S9 [] Tryz.func166 UBJ
def QA6 (h:WU) (i:AxO) (j:Z4) (l:uN) (g:Zy):Rk:=fun a c=>mk ((h a).bind fun f=>(i f c.fText).bind fun b=>(j b.1).bind fun d=>(l d.1).bind fun e=>cond b.2 (AwK (g a c e d.2)) (AwK (g a c e false)))
def AH3:Rk:=QA6 SAc ZAo V7 PA6 RAc
def DBe:Avb:=BI u2 AH3 bM Oh [SBJ,BBe,GBJ,CBe,RBJ] Tryz.func116 QA6
def RA6 (d:AwZ):uO:=fun a b=>mk ((d a).bind fun c=>Axg (!c) (some false) (Axg (b == 1) (some (!(AzT a))) (Axg (b == 2) (Axg (!(Awk a)) (some ((Nb a) != 2)) (some false)) (Axg (b == 3) (some (GU a)) (Axg (b == 4) (some (AwY a)) (some (b == 5)))))))
def BAp:uO:=RA6 Xv
def EBe:Avb:=BI u2 BAp AVT E8 [ADM] Tryz.func167 RA6
inductive UAc where
 |c0 (a:Int) (b:(List CS)) (d e:Int)
def FBe:UAc->Avm
 |.c0 a b d e=>(tdo Tryz.f120 104,[vi 1 a,vr 8 157 b,vi 9 d,vi 10 e],[])
def SA6 (k:Aw7 UAc Int):Jv:=fun a b=>mk (k (.c0 b (Qe a) (NS a:Int) 0))
def CAp (k:Aw7 UAc Int):Aw7 UAc Int
 |.c0 d b c a=>mk (cond (KZ a c) (cond (Fa a b.length) (cond ((Pq b a).fId == d) (some a) (k (.c0 d b c (NM a)))) none) U4)
def qR:AzH UAc Int
 |0,_=>none
 |m+1,s=>CAp (qR m) s
def ZT:Jv:=SA6 (qR AY)
def TA6:Avb:=fy u2 ZT wU FN [] Tryz.func120 FBe CAp SA6 qR
def UA6 (e:Qk) (f:Jv):Jv:=fun b d=>mk ((e (La b) d).bind fun a=>cond (!a.2) U4 (cond ((Nb a.1) != 2) U4 ((f b d).bind fun c=>cond (Jw c) (cond (Fa c (NS b)) (some (Pq (Qe b) c).fNext) none) (some a.1.fNext))))
def Vd:Jv:=UA6 SA ZT
def VBJ:Avb:=BI u2 Vd wU FN [KAc,TA6] Tryz.func70 UA6
def VA6 (b:AwT):AwT:=fun c=>mk ((b c).bind fun a=>AxL ((Av2 Qa QM) && (decide (4<=(Awq a)))) (some (Ayg a QM)))
def Qr:AwT:=VA6 J9
def VAc:Avb:=BI u1 Qr Cc Cc [TW] Tryz.func336 VA6
inductive WAc where
 |c0 (a:AA) (b d:Int) (e:(List AA))
def GBe:WAc->Avm
 |.c0 a b d e=>(tdo Tryz.f295 232,[vs 0 a,vi 1 b,vo 5 368,vi 7 d],[(368,.sl 9 e)])
def WA6 (c:AzI) (d:AwT) (k:Aw7 WAc (List AA)):AzE:=fun a b=>k (.c0 a b 0 [])
def DAp (a:AzI) (b:AwT) (k:Aw7 WAc (List AA)):Aw7 WAc (List AA)
 |.c0 d h f g=>mk (cond (f<10) ((a h).bind fun c=>cond (LZ d c) ((a f).bind fun e=>cond (Awg d c e) (cond (LZ ((d++c)++e) (Ax6 ⟨#[111]⟩)) ((b (((d++c)++e)++(Ax6 ⟨#[111]⟩))).bind fun i=>cond (AxW g) (k (.c0 d h (NM f) (g++[i]))) none) none) none) none) (some g))
def fU:AzH WAc (List AA)
 |0,_=>none
 |m+1,s=>DAp KP Qr (fU m) s
def qI:AzE:=WA6 KP Qr (fU AY)
def WBJ:Avb:=fy u2 qI Q9 VD [Wi,VAc] Tryz.func295 GBe DAp WA6 fU
def XA6:Ay4:=fun a=>some 0
def EAp:Ay4:=XA6
def HBe:Avb:=BI u1 EAp FN FN [] Tryz.func362 XA6
def YA6:Ay4:=fun a=>some 15
def FAp:Ay4:=YA6
def IBe:Avb:=BI u1 FAp FN FN [] Tryz.func363 YA6
inductive XAc where
 |c0 (a:AA) (b d:Int) (e f g:Int)
def JBe:XAc->Avm
 |.c0 a b d e f g=>(tdo Tryz.f335 104,[vs 0 a,vi 1 b,vi 2 d,vi 3 e,vi 13 f,vi 14 g],[])
def ZA6 (f:AzI) (g:AwT) (k:Aw7 XAc AA):Tj:=fun b c d e a=>k (.c0 b c d e (ite (15<a) 15 a) 0)
def GAp (a:AzI) (b:AwT) (k:Aw7 XAc AA):Aw7 XAc AA
 |.c0 g i j l h f=>mk (cond (KZ f h) ((a i).bind fun c=>(a j).bind fun d=>cond (LZ c d) ((a (AxZ l f)).bind fun e=>cond (Awg c d e) (cond (Awg (c++d) e g) ((b (((c++d)++e)++g)).bind fun m=>k (.c0 m i j l h (NM f))) none) none) none) (some g))
def qJ:AzH XAc AA
 |0,_=>none
 |m+1,s=>GAp KP Qr (qJ m) s
def Xd:Tj:=ZA6 KP Qr (qJ AY)
def XBJ:Avb:=fy u5 Xd AVU Cc [Wi,VAc] Tryz.func335 JBe GAp ZA6 qJ
inductive YAc where
 |c0 (a:Int) (b d:Nat) (e:AA) (f:(List AA)) (g h:Int)
def KBe:YAc->Avm
 |.c0 a b d e f g h=>(tdo Tryz.f361 488,[vi 1 a,(2,[.one (.fn b)]),(3,[.one (.fn d)]),vs 9 e,vr 15 9 f,vi 16 g,vi 17 h],[])
def APR (e f:Ay4) (g:Tj) (h:AwT) (k:Aw7 YAc AA):UAv:=fun a b c d=>mk (cond ((FD a) != 10) AzP (k (.c0 b c d Awp a (FD a) 0)))
def HAp (a b:Ay4) (c:Tj) (d:AwT) (k:Aw7 YAc AA):Aw7 YAc AA
 |.c0 j i f h g l e=>mk (cond (KZ e l) (cond (NZ e g) (cond (Nat.beq i 268) none (cond (Nat.beq i 342) none (cond (Nat.beq i 362) ((a e).bind fun m=>cond (Nat.beq f 268) none (cond (Nat.beq f 342) none (cond (Nat.beq f 362) ((a e).bind fun s=>(c (Jf g e Awp) j e m s).bind fun n=>cond (LZ h n) (k (.c0 j i f (h++n) g l (NM e))) none) (cond (Nat.beq f 363) ((b e).bind fun t=>(c (Jf g e Awp) j e m t).bind fun o=>cond (LZ h o) (k (.c0 j i f (h++o) g l (NM e))) none) none)))) (cond (Nat.beq i 363) ((b e).bind fun p=>cond (Nat.beq f 268) none (cond (Nat.beq f 342) none (cond (Nat.beq f 362) ((a e).bind fun u=>(c (Jf g e Awp) j e p u).bind fun q=>cond (LZ h q) (k (.c0 j i f (h++q) g l (NM e))) none) (cond (Nat.beq f 363) ((b e).bind fun v=>(c (Jf g e Awp) j e p v).bind fun r=>cond (LZ h r) (k (.c0 j i f (h++r) g l (NM e))) none) none)))) none)))) none) (Ax9 (d h)))
def ZO:AzH YAc AA
 |0,_=>none
 |m+1,s=>HAp EAp FAp Xd Qr (ZO m) s
def BA7:UAv:=APR EAp FAp Xd Qr (ZO AY)
def LBe:Avb:=fy u4 BA7 Ae5 Cc [HBe,IBe,XBJ,VAc] Tryz.func361 KBe HAp APR ZO
def CA7 (a:UAv):Z5:=fun b c=>mk (Ax9 (a b c 362 363))
def ZAc:Z5:=CA7 BA7
def MBe:Avb:=BI u2 ZAc wV Cc [LBe] Tryz.func333 CA7
inductive ADm where
 |c0 (a:AA) (b:Int) (d:(List AA))
def NBe:ADm->Avm
 |.c0 a b d=>(tdo Tryz.f293 232,[vs 0 a,vo 3 240,vi 5 b],[(240,.sl 9 d)])
def DA7 (b:AzE) (c:Z5) (k:Aw7 ADm (List AA)):Z7:=fun a=>k (.c0 a 0 [])
def IAp (a:AzE) (b:Z5) (k:Aw7 ADm (List AA)):Aw7 ADm (List AA)
 |.c0 f c d=>mk (cond (c<4) ((a f c).bind fun e=>(b e c).bind fun g=>cond (AxW d) (k (.c0 f (NM c) (d++[g]))) none) (some d))
def qK:AzH ADm (List AA)
 |0,_=>none
 |m+1,s=>IAp qI ZAc (qK m) s
def BAd:Z7:=DA7 qI ZAc (qK AY)
def YBJ:Avb:=fy u1 BAd Cc VD [WBJ,MBe] Tryz.func293 NBe IAp DA7 qK
def EA7 (e:AzI) (h:AwT):Z8:=fun f g c d=>mk ((e f).bind fun a=>(e g).bind fun b=>AxL (LZ a b) (AxL (Awg a b c) (AxL (Awg (a++b) c d) (AxL (LZ (((a++b)++c)++d) (Ax6 ⟨#[110]⟩)) (Ax9 (h ((((a++b)++c)++d)++(Ax6 ⟨#[110]⟩))))))))
def ZP:Z8:=EA7 KP Qr
def OBe:Avb:=BI u4 ZP AVV Cc [Wi,VAc] Tryz.func360 EA7
inductive CAd where
 |c0 (a:Int) (b:(List AA)) (d:Int) (e:(List AA))
def PBe:CAd->Avm
 |.c0 a b d e=>(tdo Tryz.f332 464,[vi 0 a,vr 1 9 b,vo 5 368,vi 6 d],[(368,.sl 9 e)])
def JAp (c:Z8) (k:Aw7 CAd (List AA)):Tn:=fun a b=>k (.c0 a b 0 [])
def DAd (a:Z8) (k:Aw7 CAd (List AA)):Aw7 CAd (List AA)
 |.c0 f c b d=>mk (cond (KZ (NM b) (FD c)) (cond (NZ b c) (cond (Ayf (NM b) (FD c)) ((a f (Av5 b) (Jf c b Awp) (Jf c (NM b) Awp)).bind fun e=>cond (AxW d) (k (.c0 f c (Ayv (b+2)) (d++[e]))) none) none) none) (some d))
def ZQ:AzH CAd (List AA)
 |0,_=>none
 |m+1,s=>DAd ZP (ZQ m) s
def Xe:Tn:=JAp ZP (ZQ AY)
def ZBJ:Avb:=fy u2 Xe AVW VD [OBe] Tryz.func332 PBe DAd JAp ZQ
inductive EAd where
 |c0 (a:(List AA)) (b:Int)
 |c1 (b:Int) (a:(List AA))
def QBe:EAd->Avm
 |.c0 a b=>(tdo Tryz.f292 464,[vr 0 9 a,vi 3 b],[])
 |.c1 b a=>(tdo Tryz.f292 464,[vo 0 48,vi 3 b],[(48,.sl 9 a)])
def FA7 (b:Tn) (k:Aw7 EAd AA):uQ:=fun a=>mk (cond ((FD a) != 4) AzP (k (.c0 a 1)))
def KAp (a:Tn) (k:Aw7 EAd AA):Aw7 EAd AA
 |.c0 b d=>mk (cond ((FD b) > 1) ((a d b).bind fun c=>k (.c1 (NM d) c)) (VAV b))
 |.c1 d b=>mk (cond ((FD b) > 1) ((a d b).bind fun c=>k (.c1 (NM d) c)) (VAV b))
def qL:AzH EAd AA
 |0,_=>none
 |m+1,s=>KAp Xe (qL m) s
def LAp:uQ:=FA7 Xe (qL AY)
def RBe:Avb:=fy u1 LAp AVX Cc [ZBJ] Tryz.func292 QBe KAp FA7 qL
def GA7 (b:Z7) (d:uQ):AwT:=fun c=>mk ((b c).bind fun a=>Ax9 (d a))
def qM:AwT:=GA7 BAd LAp
def Abz:Avb:=BI u1 qM Cc Cc [YBJ,RBe] Tryz.func260 GA7
inductive FAd where
 |c0 (a:Int) (d:AA) (e:Int) (b:(List Int))
 |c1 (a f g:Int) (b:(List Int))
def SBe:FAd->Avm
 |.c0 a d e b=>(tdo Tryz.f334 1000,[vo 3 240,vi 4 a,vs 5 d,vi 11 e],[(240,.sl 3 b)])
 |.c1 a f g b=>(tdo Tryz.f334 2024,[vo 3 240,vi 4 a,vo 28 240,vi 29 f,vi 30 g],[(240,.sl 3 b)])
def HA7 (b:AwT) (k:Aw7 FAd (List Int)):Ayz:=fun c=>(b c).bind fun a=>k (.c0 0 a 0 [])
def qN (a:AwT) (k:Aw7 FAd (List Int)):Aw7 FAd (List Int)
 |.c0 e c b d=>mk (cond (b<4) (cond (Ayf b (Awq c)) (cond (Ayf b (Awq c)) (cond (FC ((d.length+2)*8)) (k (.c0 e c (NM b) (d++[Ayv (Qs (bt c b) (Nj (Axd QM) QH)),Ayv (w8 ((BitVec.toNat ((BitVec.ofInt QH (bt c b)) &&& (BitVec.ofInt QH 15)):Nat):Int))]))) none) none) none) (k (.c1 e (Aw3 d) 0 d)))
 |.c1 d e c b=>mk (cond (KZ c e) (cond (Fb c b) (k (.c1 (AxZ d (Ayv (15 - (GZ b c)))) e (NM c) b)) none) (JG (FC ((b.length+2)*8)) (Md (b++[jL d,d.tmod 16]))))
def Xf:AzH FAd (List Int)
 |0,_=>none
 |m+1,s=>qN Qr (Xf m) s
def GAd:Ayz:=HA7 Qr (Xf AY)
def TBe:Avb:=fy u1 GAd Cc JZ [VAc] Tryz.func334 SBe qN HA7 Xf
inductive HAd where
 |c0 (a:Int) (b:(List AA)) (d e:Int) (f:(List Int)) (g:(List AA))
def UBe:HAd->Avm
 |.c0 a b d e f g=>(tdo Tryz.f294 1000,[vi 1 a,vo 7 496,vo 8 560,vr 16 9 b,vi 17 d,vi 18 e],[(496,.sl 3 f),(560,.sl 9 g)])
def IA7 (c:Ayz) (f:Tj) (k:Aw7 HAd (List AA)):uT:=fun a e d=>mk (cond ((FD a) != 10) (some []) ((c d).bind fun b=>k (.c0 e a (FD a) 0 b [])))
def MAp (a:Ayz) (b:Tj) (k:Aw7 HAd (List AA)):Aw7 HAd (List AA)
 |.c0 i d g c e f=>mk (cond (KZ c g) (cond (NZ c d) (cond (Fb c e) ((b (Jf d c Awp) i c 0 (GZ e c)).bind fun h=>cond (AxW f) (k (.c0 i d g (NM c) e (f++[h]))) none) none) none) (some f))
def qO:AzH HAd (List AA)
 |0,_=>none
 |m+1,s=>MAp GAd Xd (qO m) s
def NAp:uT:=IA7 GAd Xd (qO AY)
def VBe:Avb:=fy u3 NAp AVY VD [TBe,XBJ] Tryz.func294 UBe MAp IA7 qO
inductive IAd where
 |c0 (a:(List AA)) (b d:Int) (e:(List AA))
 |c1 (b d:Int) (a e:(List AA))
def WBe:IAd->Avm
 |.c0 a b d e=>(tdo Tryz.f296 976,[vr 0 9 a,vi 1 b,vo 5 368,vi 6 d],[(368,.sl 9 e)])
 |.c1 b d a e=>(tdo Tryz.f296 976,[vo 0 48,vi 1 b,vo 5 368,vi 6 d],[(48,.sl 9 a),(368,.sl 9 e)])
def JA7 (d:Va) (e:Tn) (k:Aw7 IAd (List AA)):uU:=fun a c=>mk (cond ((FD a) != 4) (some []) ((d c 0 3).bind fun b=>cond (!b) (some []) (k (.c0 a c 1 []))))
def OAp (a:Va) (b:Tn) (k:Aw7 IAd (List AA)):Aw7 IAd (List AA)
 |.c0 c d g e=>mk (cond ((FD c) > 1) (cond (Ayf (Ayv (LAV d)) (FD c)) (cond (AxW e) ((b g c).bind fun f=>k (.c1 (Av5 d) (NM g) f (e++[c.getD (Ic (LAV d)) (Ax6 Awp)]))) none) none) (some e))
 |.c1 d g c e=>mk (cond ((FD c) > 1) (cond (Ayf (Ayv (LAV d)) (FD c)) (cond (AxW e) ((b g c).bind fun f=>k (.c1 (Av5 d) (NM g) f (e++[c.getD (Ic (LAV d)) (Ax6 Awp)]))) none) none) (some e))
def ZR:AzH IAd (List AA)
 |0,_=>none
 |m+1,s=>OAp Gx Xe (ZR m) s
def PAp:uU:=JA7 Gx Xe (ZR AY)
def XBe:Avb:=fy u2 PAp wV VD [KY,ZBJ] Tryz.func296 WBe OAp JA7 ZR
def KA7 (h:Va) (i:AzE) (j:uT) (m:Z7) (n:uU):uV:=fun d a l=>mk ((h a 0 3).bind fun b=>cond (!b) (some (jJ,false)) ((i d a).bind fun c=>(j c a l).bind fun e=>(m d).bind fun f=>(n f a).bind fun g=>some (⟨a,e,g⟩,true)))
def qP:uV:=KA7 Gx qI NAp BAd PAp
def YBe:Avb:=BI u3 qP VA AVZ [KY,WBJ,VBe,YBJ,XBe] Tryz.func261 KA7
def LA7 (i:Va) (j:AzI) (l:AwT) (g:uV):uX:=fun a c m=>mk ((i c 0 15).bind fun e=>cond (!e) (some (⟨jJ,Awp,jJ⟩,false)) ((j (aU c)).bind fun b=>cond (LZ a b) (cond (LZ (a++b) vH) ((l ((a++b)++vH)).bind fun d=>(g ((a++b)++vH) (c.tmod 4) m).bind fun f=>cond (LZ a QK) ((g (a++QK) (aU c) d).bind fun h=>some (⟨h.1,d,f.1⟩,true)) none) none) none))
def QAp:uX:=LA7 Gx KP qM qP
def ZBe:Avb:=BI u3 QAp VA AVa [KY,Wi,Abz,YBe] Tryz.func227 LA7
inductive JAd where
 |c0 (a:(List AA)) (b:Int) (d:(List AA)) (e f:Int)
def ArI:JAd->Avm
 |.c0 a b d e f=>(tdo Tryz.f337 104,[vr 0 9 a,vi 1 b,vr 7 9 d,vi 8 e,vi 9 f],[])
def MA7 (k:Aw7 JAd Bool):VAv:=fun a b=>mk (k (.c0 a b a (FD a) 0))
def NA7 (k:Aw7 JAd Bool):Aw7 JAd Bool
 |.c0 d e b c a=>mk (cond (KZ a c) (cond (NZ a b) (cond ((Awq (Jf b a Awp)) != 4) (some false) (k (.c0 d e b c (NM a)))) none) (some ((FD d) == e)))
def KAd:AzH JAd Bool
 |0,_=>none
 |m+1,s=>NA7 (KAd m) s
def RAp:VAv:=MA7 (KAd AY)
def BBf:Avb:=fy u2 RAp wV E8 [] Tryz.func337 ArI NA7 MA7 KAd
def OA7 (c:Va) (b:VAv):Z9:=fun a=>mk (Awc (c a.Dv 0 3) (Awc (b a.Fg 10) (O8 (b a.Gn 2)) (some false)) (some false))
def LAd:Z9:=OA7 Gx RAp
def CBf:Avb:=BI u1 LAd AEo E8 [KY,BBf] Tryz.func297 OA7
inductive MAd where
 |c0 (a:AA) (b:(List AA)) (d e:Int) (f:IL)
 |c1 (a:AA) (g:(List AA)) (h i:Int)
def DBf:MAd->Avm
 |.c0 a d e f b=>(tdo Tryz.f262 488,[vp 1 64,vs 4 a,vr 16 9 d,vi 17 e,vi 18 f],[(64,.var [li b.Dv,.BG 9 b.Fg,.BG 9 b.Gn])])
 |.c1 a g h i=>(tdo Tryz.f262 1000,[vs 4 a,vr 27 9 g,vi 28 h,vi 29 i],[])
def PA7 (d:Z9) (e:AzI) (k:Aw7 MAd (AA×Bool)):uY:=fun a=>mk ((d a).bind fun b=>cond (!b) (MZ (Awp,false)) ((e a.Dv).bind fun c=>k (.c0 c a.Fg (FD a.Fg) 0 a)))
def qQ (a:Z9) (b:AzI) (k:Aw7 MAd (AA×Bool)):Aw7 MAd (AA×Bool)
 |.c0 e d g c f=>mk (cond (KZ c g) (cond (NZ c d) (cond (LZ e (Jf d c Awp)) (k (.c0 (e++(Jf d c Awp)) d g (NM c) f)) none) none) (k (.c1 e f.Gn (FD f.Gn) 0)))
 |.c1 e d f c=>mk (cond (KZ c f) (cond (NZ c d) (cond (LZ e (Jf d c Awp)) (k (.c1 (e++(Jf d c Awp)) d f (NM c))) none) none) (MZ (e,true)))
def Xg:AzH MAd (AA×Bool)
 |0,_=>none
 |m+1,s=>qQ LAd KP (Xg m) s
def SAp:uY:=PA7 LAd KP (Xg AY)
def EBf:Avb:=fy u1 SAp AEo IQ [CBf,Wi] Tryz.func262 DBf qQ PA7 Xg
def QA7 (d:uY):uZ:=fun a=>mk ((d a.QU).bind fun b=>(d a.QV).bind fun c=>cond (!b.2) (MZ (Awp,false)) (cond (!c.2) (MZ (Awp,false)) (cond ((Awq a.QS) != 4) (MZ (Awp,false)) (FK (LZ b.1 a.QS) (FK (LZ (b.1++a.QS) c.1) (MZ ((b.1++a.QS)++c.1,true)))))))
def TAp:uZ:=QA7 SAp
def FBf:Avb:=BI u1 TAp AVb IQ [EBf] Tryz.func228 QA7
def RA7 (e:Jv) (g:jA) (h:uX) (j:uZ):Tq:=fun f i a=>mk ((e f a.fId).bind fun b=>cond (b>=16) (AwK (g 1)) ((h (Oc a) b i.fText).bind fun d=>(j d.1).bind fun c=>cond (b != a.fNext) (some ([],0,c.1)) (some ([⟨3,Awp,0,⟨a.fId,Nb a,AzT a,Awk a,GU a,AwY a,Oc a,ite (16<(Ayv (a.fNext+3))) 16 (Ayv (a.fNext+3))⟩⟩],0,c.1))))
def UAp:Tq:=RA7 Vd ZN QAp TAp
def GBf:Avb:=BI u3 UAp AEp Oh [VBJ,PAc,ZBe,FBf] Tryz.func168 RA7
def SA7 (d:AwT) (e:Pn):AxO:=fun f b=>mk (cond ((Awq b) > 400) (MZ (Awp,false)) ((d b).bind fun c=>(e f 0 c).bind fun a=>MZ (a.1,a.2)))
def VAp:AxO:=SA7 TAc JAb
def HBf:Avb:=BI u2 VAp KJ IQ [TBJ,TBI] Tryz.func169 SA7
inductive NAd where
 |c0 (a:AA) (b:Int) (d e:(List Int))
def IBf:NAd->Avm
 |.c0 a b d e=>(tdo Tryz.f365 232,[vs 0 a,vp 2 128,vp 3 192,vi 5 b],[(128,.ar 274 d),(192,.ar 274 e)])
def TA7 (k:Aw7 NAd (List Int)):Ayz:=fun a=>mk (k (.c0 a 0 aQ aQ))
def UA7 (k:Aw7 NAd (List Int)):Aw7 NAd (List Int)
 |.c0 c b d a=>mk (cond (b<200) (cond (Rf a) (cond (Av1 (Avy b) a) (cond (Ayf b (Awq c)) (cond (Av7 (Ayv (8*(b.tmod 8)))) (cond (Rf a) (cond (Av1 (Avy b) a) (k (.c0 c (NM b) d (a.set (Ic (Avy b)) (Ay8 (aO AxK (AzV a (Avy b)) (Ay8 ((Ay8 (bt c b))*(Nj (Ic (8*(b.tmod 8))) AxK)))))))) none) none) none) none) none) none) (JG (Rf a) (JG ((Awz a d) && (Rf a)) (JG ((Rf a) && true) (Md a)))))
def qp:AzH NAd (List Int)
 |0,_=>none
 |m+1,s=>UA7 (qp m) s
def WAp:Ayz:=TA7 (qp AY)
def JBf:Avb:=fy u1 WAp Cc U9 [] Tryz.func365 IBf UA7 TA7 qp
def VA7:Je:=fun b a=>mk (cond (Av7 (Ay8 (64 - (RAj a)))) (some (Ay8 (aO AxK (Ay8 (b*(Nj (Axd (RAj a)) AxK))) (Qs b (Nj (Axd (Ay8 (64 - (RAj a)))) AxK))))) none)
def ZV:Je:=VA7
def BBK:Avb:=BI u2 ZV AVc wX [] Tryz.func385 VA7
inductive OAd where
 |c0 (e:(List Int)) (f:Int) (a b d:(List Int))
 |c1 (g:Int) (a b d:(List Int))
def KBf:OAd->Avm
 |.c0 e f a b d=>(tdo Tryz.f377 232,[vp 1 64,vp 2 128,vp 3 192,(8,[.arr 274 e]),vi 9 f],[(64,.ar 274 a),(128,.ar 274 b),(192,.ar 274 d)])
 |.c1 g a b d=>(tdo Tryz.f377 488,[vp 1 64,vp 2 128,vp 3 192,vi 21 g],[(64,.ar 274 a),(128,.ar 274 b),(192,.ar 274 d)])
def WA7 (b:Je) (k:Aw7 OAd (List Int)):GV:=fun a=>mk (cond (Rf a) (k (.c0 a 0 a aQ [0,0,0,0,0])) none)
def PAd (a:Je) (k:Aw7 OAd (List Int)):Aw7 OAd (List Int)
 |.c0 d b e f c=>mk (cond (b<25) (cond (Rf d) (cond (Fb b d) (cond (Nat.beq 5 c.length) (cond (Ayf (AwL b) (Aw3 c)) (cond (Nat.beq 5 c.length) (cond (Ayf (AwL b) (Aw3 c)) (k (.c0 d (NM b) e f (c.set (Axd (AwL b)) (Ay8 (Oi AxK (GZ c (AwL b)) (GZ d b)))))) none) none) none) none) none) none) (k (.c1 0 e f c)))
 |.c1 c b f d=>mk (cond (c<25) (cond (Rf b) (cond (Fb c b) (cond (Nat.beq 5 d.length) (cond (Ayf (AwL (Ayv ((AwL c)+4))) (Aw3 d)) (cond (Nat.beq 5 d.length) (cond (Ayf (AwL (NM (AwL c))) (Aw3 d)) ((a (GZ d (AwL (NM (AwL c)))) 1).bind fun e=>cond (Rf b) (cond (Fb c b) (k (.c1 (NM c) (b.set (Axd c) (Ay8 (Oi AxK (GZ b c) (Ay8 (Oi AxK (GZ d (AwL (Ayv ((AwL c)+4)))) e))))) f d)) none) none) none) none) none) none) none) none) (JG (Rf b) (JG ((Awz b f) && (Rf b)) (JG ((Rf b) && true) (Md b)))))
def Xn:AzH OAd (List Int)
 |0,_=>none
 |m+1,s=>PAd ZV (Xn m) s
def QAd:GV:=WA7 ZV (Xn AY)
def LBf:Avb:=fy u1 QAd U9 U9 [BBK] Tryz.func377 KBf PAd WA7 Xn
inductive RAd where
 |c0 (a b d:Int) (e f g:(List Int))
def MBf:RAd->Avm
 |.c0 a b d e f g=>(tdo Tryz.f378 1000,[vp 1 64,vp 2 128,vp 3 192,vi 4 a,vi 5 b,vi 13 d],[(64,.ar 274 e),(128,.ar 274 f),(192,.ar 274 g)])
def XA7 (b:Je) (k:Aw7 RAd (List Int)):GV:=fun a=>mk (cond (Rf a) (cond (AxR a) (k (.c0 1 0 0 a aQ [GZ a Qa,0,0,0,0,0,0,0,0,0,0,0,0,0,0,0,0,0,0,0,0,0,0,0,0])) none) none)
def YA7 (a:Je) (k:Aw7 RAd (List Int)):Aw7 RAd (List Int)
 |.c0 d b e f h c=>mk (cond (e<24) (cond (Rf f) (cond (Av1 (AzG d b) f) ((a (AzV f (AzG d b)) ((Av5 (Ayv ((NM e)*(Ayv (e+2))))).tmod 64)).bind fun g=>cond (Rf c) (cond (Av1 (AzG b (jM d b)) c) (k (.c0 b (jM d b) (NM e) f h (c.set (Ic (AzG b (jM d b))) g))) none) none) none) none) (JG (Rf c) (JG ((Awz c h) && (Rf c)) (JG ((Rf c) && true) (Md c)))))
def qw:AzH RAd (List Int)
 |0,_=>none
 |m+1,s=>YA7 ZV (qw m) s
def SAd:GV:=XA7 ZV (qw AY)
def NBf:Avb:=fy u1 SAd U9 U9 [BBK] Tryz.func378 MBf YA7 XA7 qw
inductive TAd where
 |c0 (a:Int) (b d e:(List Int))
 |c1 (f a g:Int) (b d e:(List Int))
def OBf:TAd->Avm
 |.c0 a b d e=>(tdo Tryz.f379 232,[vp 1 64,vp 2 128,vp 3 192,vi 6 a],[(64,.ar 274 b),(128,.ar 274 d),(192,.ar 274 e)])
 |.c1 f a g b d e=>(tdo Tryz.f379 59800,[vp 1 64,vp 2 128,vp 3 192,vi 4 f,vi 6 a,vi 9 g],[(64,.ar 274 b),(128,.ar 274 d),(192,.ar 274 e)])
def ZA7 (k:Aw7 TAd (List Int)):GV:=fun a=>mk (k (.c0 0 a aQ aQ))
def XAp (k:Aw7 TAd (List Int)):Aw7 TAd (List Int)
 |.c0 b d c a=>mk (cond (b<5) (k (.c1 b b 0 d c a)) (JG (Rf a) (JG ((Awz a c) && (Rf a)) (JG ((Rf a) && true) (Md a)))))
 |.c1 c e b a f d=>mk (cond (b<5) (cond (Rf a) (cond (Av1 (AzG b c) a) (cond (Rf a) (cond (Av1 ((AwL (NM b))+(Ayv (5*c))) a) (cond (Rf a) (cond (Av1 ((AwL (Ayv (b+2)))+(Ayv (5*c))) a) (cond (Rf d) (cond (Av1 (AzG b c) d) (k (.c1 c e (NM b) a f (d.set (Ic (AzG b c)) (Ay8 (Oi AxK (AzV a (AzG b c)) (Ay8 (QG AxK (Ay8 ((BitVec.toNat ((BitVec.ofInt AxK (ite ((IntKind.signed IntKind.u64) = true) (-AwX) (IntKind.max IntKind.u64))) ^^^ (BitVec.ofInt AxK (AzV a ((AwL (NM b))+(Ayv (5*c)))))):Nat):Int)) (AzV a ((AwL (Ayv (b+2)))+(Ayv (5*c))))))))))) none) none) none) none) none) none) none) none) (k (.c0 (NM e) a f d)))
def ZW:AzH TAd (List Int)
 |0,_=>none
 |m+1,s=>XAp (ZW m) s
def UAd:GV:=ZA7 (ZW AY)
def PBf:Avb:=fy u1 UAd U9 U9 [] Tryz.func379 OBf XAp ZA7 ZW
inductive VAd where
 |c0 (a b d:Int)
def QBf:VAd->Avm
 |.c0 a b d=>(tdo Tryz.f386 232,[vi 3 a,vi 4 b,vi 5 d],[])
def CBK (k:Aw7 VAd Int):Ay4:=fun a=>k (.c0 1 a 0)
def DBK (k:Aw7 VAd Int):Aw7 VAd Int
 |.c0 a c b=>mk (cond (KZ b c) (cond ((Ayv (a*(Vx AwX)))>=256) (k (.c0 (Ayv (SAj Qh (TAj (a*(Vx AwX))))) c (NM b))) (k (.c0 (Ayv (a*(Vx AwX))) c (NM b)))) (some (Ay8 (Ayv (WY Qh a)))))
def ATc:AzH VAd Int
 |0,_=>none
 |m+1,s=>DBK (ATc m) s
def BA8:Ay4:=CBK (ATc AY)
def RBf:Avb:=fy u1 BA8 FN wX [] Tryz.func386 QBf DBK CBK ATc
inductive WAd where
 |c0 (a b d:Int)
def SBf:WAd->Avm
 |.c0 a b d=>(tdo Tryz.f380 232,[vi 0 a,(3,[.one (.int .u64 b)]),vi 5 d],[])
def EBK (b:Ay4) (k:Aw7 WAd Int):Ay4:=fun a=>k (.c0 a 0 0)
def FBK (a:Ay4) (k:Aw7 WAd Int):Aw7 WAd Int
 |.c0 d e b=>mk (cond (b<7) ((a (AxZ b (Ayv (7*d)))).bind fun c=>cond (Av7 b) (cond (Av7 (Ay8 ((Ay8 (1*(Nj (Axd b) AxK))) - 1))) (k (.c0 d (Ay8 (aO AxK e (Ay8 (c*(Nj (Axd (Ay8 ((Ay8 (1*(Nj (Axd b) AxK))) - 1))) AxK))))) (NM b))) none) none) (some e))
def CA8:AzH WAd Int
 |0,_=>none
 |m+1,s=>FBK BA8 (CA8 m) s
def YAp:Ay4:=EBK BA8 (CA8 AY)
def TBf:Avb:=fy u1 YAp FN wX [RBf] Tryz.func380 SBf FBK EBK CA8
inductive XAd where
 |c0 (a:Int) (b d:(List Int))
def UBf:XAd->Avm
 |.c0 a b d=>(tdo Tryz.f364 104,[vp 1 64,vp 2 128,vi 4 a],[(64,.ar 274 b),(128,.ar 274 d)])
def DA8 (b c d:GV) (e:Ay4) (k:Aw7 XAd (List Int)):GV:=fun a=>mk (k (.c0 0 a aQ))
def EA8 (a b c:GV) (d:Ay4) (k:Aw7 XAd (List Int)):Aw7 XAd (List Int)
 |.c0 g f l=>mk (cond (g<24) (cond (Rf f) ((a f).bind fun h=>(b h).bind fun i=>(c i).bind fun e=>cond ((Awz e f) && (Rf e)) (cond (Rf e) (cond (AxR e) ((d g).bind fun j=>cond (Rf e) (cond (AxR e) (k (.c0 (NM g) (e.set (Axd Qa) (Ay8 (Oi AxK (GZ e Qa) j))) l)) none) none) none) none) none) none) (JG (Rf f) (JG ((Awz f l) && (Rf f)) (JG ((Rf f) && true) (Md f)))))
def YAd:AzH XAd (List Int)
 |0,_=>none
 |m+1,s=>EA8 QAd SAd UAd YAp (YAd m) s
def ZAp:GV:=DA8 QAd SAd UAd YAp (YAd AY)
def VBf:Avb:=fy u1 ZAp U9 U9 [LBf,NBf,PBf,TBf] Tryz.func364 UBf EA8 DA8 YAd
inductive ZAd where
 |c0 (a b:Int) (d e:(List Int))
def WBf:ZAd->Avm
 |.c0 a b d e=>(tdo Tryz.f366 232,[vp 1 64,vo 3 240,vi 7 a,vi 8 b],[(64,.ar 274 d),(240,.sl 5 e)])
def FA8 (k:Aw7 ZAd AA):Avk:=fun a=>mk (k (.c0 (Aw3 (SV (200:Int))) 0 a (SV (200:Int))))
def GA8 (k:Aw7 ZAd AA):Aw7 ZAd AA
 |.c0 d a b c=>mk (cond (KZ a d) (cond (Rf b) (cond (Av1 (Avy a) b) (cond (Av7 (Ayv (8*(a.tmod 8)))) (cond (Fb a c) (k (.c0 d (NM a) b (c.set (Axd a) (w8 (Qs (AzV b (Avy a)) (Nj (Ic (8*(a.tmod 8))) AxK)))))) none) none) none) none) (AxU c))
def qx:AzH ZAd AA
 |0,_=>none
 |m+1,s=>GA8 (qx m) s
def AIA:Avk:=FA8 (qx AY)
def XBf:Avb:=fy u1 AIA U9 Cc [] Tryz.func366 WBf GA8 FA8 qx
def HA8 (d:Ayz) (e:GV) (f:Avk):AwT:=fun a=>mk (cond ((Awq a) != 200) (some a) ((d a).bind fun b=>(e b).bind fun c=>Ax9 (f c)))
def gQ:AwT:=HA8 WAp ZAp AIA
def GBK:Avb:=BI u1 gQ Cc Cc [JBf,VBf,XBf] Tryz.func339 HA8
inductive AD2 where
 |c0 (a:Int) (b:(List Int))
 |c1 (a d:Int) (b e:(List Int))
 |c2 (a d:Int) (f g:Int) (b e:(List Int))
def YBf:AD2->Avm
 |.c0 a b=>(tdo Tryz.f338 224,[vi 1 a,vo 7 496],[(496,.sl 5 b)])
 |.c1 a d b e=>(tdo Tryz.f338 4048,[vi 1 a,vo 7 496,vo 8 560,vi 9 d],[(496,.sl 5 b),(560,.sl 5 e)])
 |.c2 a d f g b e=>(tdo Tryz.f338 259208,[vi 1 a,vo 7 496,vo 8 560,vi 9 d,vi 40 f,vi 41 g],[(496,.sl 5 b),(560,.sl 5 e)])
def IA8 (d:AwT) (k:Aw7 AD2 AA):uf:=fun a b c=>mk (cond (Q5 a) (cond (OW (AzB a)) (k (.c0 b ((AzB a)++[c]))) none) none)
def ZX (a:AwT) (k:Aw7 AD2 AA):Aw7 AD2 AA
 |.c0 c b=>mk (cond (!(Ayy c)) (cond (((Aw3 b).tmod c) != 0) (cond (OW b) (k (.c0 c (b++[Qa]))) none) (cond (Av1 ((Aw3 b) - 1) b) (cond (Av1 ((Aw3 b) - 1) b) (k (.c1 c 0 (IAw b) (SV (200:Int)))) none) none)) none)
 |.c1 d b c e=>mk (cond (KZ b (Aw3 c)) (k (.c2 d b d 0 c e)) (AxU e))
 |.c2 f d h b e c=>mk (cond (KZ b h) (cond (Fb b c) (cond (Av1 (d+b) e) (cond (Fb b c) (k (.c2 f d h (NM b) e (c.set (Axd b) (w8 (Oi QH (GZ c b) (AzV e (d+b))))))) none) none) none) ((a (ofBytes c)).bind fun g=>cond (Q5 g) (k (.c1 f (AxZ d f) e (AzB g))) none))
def Ru:AzH AD2 AA
 |0,_=>none
 |m+1,s=>ZX gQ (Ru m) s
def BAe:uf:=IA8 gQ (Ru AY)
def ZBf:Avb:=fy u3 BAe AVd Cc [GBK] Tryz.func338 YBf ZX IA8 Ru
def JA8 (b:uf):Ayu:=fun c=>(b c 168 31).bind fun a=>some ⟨a,0⟩
def qy:Ayu:=JA8 BAe
def HBK:Avb:=BI u1 qy Cc AVe [ZBf] Tryz.func303 JA8
inductive CAe where
 |c0 (a:Int) (b:AA) (d e:F6)
def Ark:CAe->Avm
 |.c0 d e a b=>(tdo Tryz.f304 480,[vi 1 d,vp 2 128,vp 4 256,vs 6 e],[(128,.var [.str a.F7,li a.ER]),(256,.var [.str b.F7,li b.ER])])
def KA8 (c:Va) (f:AwT) (k:Aw7 CAe (F6×AA)):WX:=fun a d=>mk ((c d 0 4000).bind fun b=>cond (!b) (some (a,Awp)) (cond ((Awq a.F7) != 200) (some (a,Awp)) ((c a.ER 0 168).bind fun e=>cond (!e) (some (a,Awp)) (k (.c0 d Awp a ⟨Awp,0⟩)))))
def LA8 (a:Va) (b:AwT) (k:Aw7 CAe (F6×AA)):Aw7 CAe (F6×AA)
 |.c0 e c d g=>mk (cond (KZ (Awq c) e) (cond (d.ER == 168) ((b d.F7).bind fun f=>cond (((decide (Qa<=Qa)) && (Av7 (Ayv (0+(ite (Nk<(NC e c)) Nk (NC e c)))))) && (Av2 (Ayv (0+(ite (Nk<(NC e c)) Nk (NC e c)))) (Awq f))) (cond (LZ c (Vj f Qa (0+(ite (Nk<(NC e c)) Nk (NC e c))))) (k (.c0 e (c++(Vj f Qa (0+(ite (Nk<(NC e c)) Nk (NC e c))))) ⟨f,Ayv (0+(ite (Nk<(NC e c)) Nk (NC e c)))⟩ g)) none) none) (cond (Om d.ER (Ayv (d.ER+(ite ((QL d)<(NC e c)) (QL d) (NC e c)))) (Awq d.F7)) (cond (LZ c (Vj d.F7 d.ER (d.ER+(ite ((QL d)<(NC e c)) (QL d) (NC e c))))) (k (.c0 e (c++(Vj d.F7 d.ER (d.ER+(ite ((QL d)<(NC e c)) (QL d) (NC e c))))) ⟨d.F7,Ayv (d.ER+(ite ((QL d)<(NC e c)) (QL d) (NC e c)))⟩ g)) none) none)) (some (d,c)))
def kK:AzH CAe (F6×AA)
 |0,_=>none
 |m+1,s=>LA8 Gx gQ (kK m) s
def bZ:WX:=KA8 Gx gQ (kK AY)
def IBK:Avb:=fy u2 bZ AVf AVg [KY,GBK] Tryz.func304 Ark LA8 KA8 kK
def MA8 (e:Va) (f:Ayu) (h:WX):aB:=fun g b=>mk ((e b 0 4000).bind fun a=>cond (!a) (MZ (Awp,false)) ((f g).bind fun c=>(h c b).bind fun d=>MZ (d.2,true)))
def kL:aB:=MA8 Gx qy bZ
def BBg:Avb:=BI u2 kL Q9 IQ [KY,HBK,IBK] Tryz.func302 MA8
def NA8:Ay4:=fun a=>mk (some (aJ ((a.tmod 3329)+3329)))
def RS:Ay4:=NA8
def DAe:Avb:=BI u1 RS FN FN [] Tryz.func301 NA8
inductive EAe where
 |c0 (a:AA) (b d:Int) (e:(List Int))
def CBg:EAe->Avm
 |.c0 a b d e=>(tdo Tryz.f264 488,[vs 5 a,vo 7 496,vi 20 b,vi 21 d],[(496,.sl 3 e)])
def OA8 (d:AzI) (f:aB) (g:Ay4) (k:Aw7 EAe (List Int)):Aw2:=fun b e=>mk ((d e).bind fun a=>cond (LZ b a) ((f (b++a) 128).bind fun c=>k (.c0 c.1 (Aw3 YI) 0 YI)) none)
def PA8 (a:AzI) (b:aB) (c:Ay4) (k:Aw7 EAe (List Int)):Aw7 EAe (List Int)
 |.c0 e g d f=>mk (cond (KZ d g) (cond (Ayf (Av5 d) (Awq e)) (cond (Av7 (Ayv (4*(d.tmod 2)))) ((c (Aw9 (Aw9 (OU (WY Qh (PAV e d)) (WY Qh (Qs (PAV e d) (Vx AwX)))) (Ayv (WY Qh (Qs (PAV e d) (Vx (2:Int)))))) (Ayv (WY Qh (Qs (PAV e d) (Vx (3:Int))))))).bind fun h=>cond (Fb d f) (k (.c0 e g (NM d) (f.set (Axd d) h))) none) none) none) (Md f))
def kM:AzH EAe (List Int)
 |0,_=>none
 |m+1,s=>PA8 KP kL RS (kM m) s
def xK:Aw2:=OA8 KP kL RS (kM AY)
def DBg:Avb:=fy u2 xK Q9 JZ [Wi,BBg,DAe] Tryz.func264 CBg PA8 OA8 kM
inductive GAe where
 |c0 (a:AA) (b d:Int) (e:(List (List Int)))
def EBg:GAe->Avm
 |.c0 a b d e=>(tdo Tryz.f230 232,[vs 0 a,vi 1 b,vo 5 368,vi 7 d],[(368,.sl 37 e)])
def QA8 (c:Aw2) (k:Aw7 GAe (List (List Int))):IAj:=fun a b=>k (.c0 a b 0 [])
def BAq (a:Aw2) (k:Aw7 GAe (List (List Int))):Aw7 GAe (List (List Int))
 |.c0 e f b c=>mk (cond (U5 b) ((a e (AxZ f b)).bind fun d=>cond (YG c) (k (.c0 e f (NM b) (c++[d]))) none) (some c))
def xO:AzH GAe (List (List Int))
 |0,_=>none
 |m+1,s=>BAq xK (xO m) s
def cO:IAj:=QA8 xK (xO AY)
def FBg:Avb:=fy u2 cO Q9 AEd [DBg] Tryz.func230 EBg BAq QA8 xO
inductive IAe where
 |c0 (a b:(List Int)) (d e:Int)
def GBg:IAe->Avm
 |.c0 a b d e=>(tdo Tryz.f265 104,[vr 0 3 a,vr 5 3 b,vi 6 d,vi 7 e],[])
def RA8 (b:Va) (k:Aw7 IAe Bool):Nc:=fun a=>mk (k (.c0 a a (Aw3 a) 0))
def CAq (a:Va) (k:Aw7 IAe Bool):Aw7 IAe Bool
 |.c0 f c d b=>mk (cond (KZ b d) (cond (Fb b c) ((a (GZ c b) 0 3328).bind fun e=>cond (!e) (some false) (k (.c0 f c d (NM b)))) none) (some ((Aw3 f) == 256)))
def kP:AzH IAe Bool
 |0,_=>none
 |m+1,s=>CAq Gx (kP m) s
def VY:Nc:=RA8 Gx (kP AY)
def DAq:Avb:=fy u1 VY Wn E8 [KY] Tryz.func265 GBg CAq RA8 kP
def SA8:GV:=fun a=>mk (JG (FC (a.length*8)) (Md a))
def xP:GV:=SA8
def HBg:Avb:=BI u1 xP Wn JZ [] Tryz.func298 SA8
inductive KAe where
 |c0 (a b d:Int)
def IBg:KAe->Avm
 |.c0 a b d=>(tdo Tryz.f300 232,[vi 0 a,vi 3 b,vi 5 d],[])
def TA8 (k:Aw7 KAe Int):Ay4:=fun a=>k (.c0 a 0 0)
def UA8 (k:Aw7 KAe Int):Aw7 KAe Int
 |.c0 b c a=>mk (cond (a<7) (cond (Av7 a) (k (.c0 b (OU (2*c) (WY Qh (Qs b (Vx a)))) (NM a))) none) (some c))
def xQ:AzH KAe Int
 |0,_=>none
 |m+1,s=>UA8 (xQ m) s
def cZ:Ay4:=TA8 (xQ AY)
def JBK:Avb:=fy u1 cZ FN FN [] Tryz.func300 IBg UA8 TA8 xQ
inductive MAe where
 |c0 (a b d:Int)
def JBg:MAe->Avm
 |.c0 a b d=>(tdo Tryz.f299 992,[vi 0 a,vi 1 b,vi 5 d],[])
def VA8 (d:Va) (e:Ay4) (k:Aw7 MAe Int):Je:=fun f b=>(d b 0 1000000000).bind fun a=>cond (!a) (some 0) ((e f).bind fun c=>k (.c0 c b 1))
def WA8 (a:Va) (b:Ay4) (k:Aw7 MAe Int):Aw7 MAe Int
 |.c0 c d e=>mk (cond (AzC d) (cond (PK d) (k (.c0 (aJ (c*c)) (Av5 d) (jD e c))) (k (.c0 (aJ (c*c)) (Av5 d) e))) (some e))
def xR:AzH MAe Int
 |0,_=>none
 |m+1,s=>WA8 Gx RS (xR m) s
def cu:Je:=VA8 Gx RS (xR AY)
def KBK:Avb:=fy u2 cu wP FN [KY,DAe] Tryz.func299 JBg WA8 VA8 xR
inductive OAe where
 |c0 (a b:Int) (d:(List Int))
 |c1 (a b e:Int) (d:(List Int))
 |c2 (a b:Int) (e f g:Int) (d:(List Int))
def KBg:OAe->Avm
 |.c0 a b d=>(tdo Tryz.f263 2000,[vo 3 240,vi 4 a,vi 5 b],[(240,.sl 3 d)])
 |.c1 a b e d=>(tdo Tryz.f263 128144,[vo 3 240,vi 4 a,vi 5 b,vi 6 e],[(240,.sl 3 d)])
 |.c2 a b e f g d=>(tdo Tryz.f263 32805488,[vo 3 240,vi 4 a,vi 5 b,vi 6 e,vi 7 f,vi 8 g],[(240,.sl 3 d)])
def XA8 (d:Nc) (e:GV) (f:Ay4) (g:Je) (h:Ay4) (k:Aw7 OAe (List Int)):GV:=fun b=>mk ((d b).bind fun a=>cond (!a) (Md []) ((e b).bind fun c=>k (.c0 1 128 c)))
def dD (a:Nc) (b:GV) (c:Ay4) (d:Je) (e:Ay4) (k:Aw7 OAe (List Int)):Aw7 OAe (List Int)
 |.c0 h f g=>mk (cond (f>=2) (k (.c1 h f 0 g)) (Md g))
 |.c1 g j f l=>mk (cond (AyO f) ((c g).bind fun h=>(d 17 h).bind fun i=>k (.c2 (NM g) j f i f l)) (k (.c0 g (Av5 j) l)))
 |.c2 n h i l f g=>mk (cond (KZ f (AxZ i h)) (cond (Av1 (f+h) g) (cond (Fb f g) ((e (AxZ (GZ g f) (Ayv (l*(AzV g (f+h)))))).bind fun j=>cond (Fb f g) ((e (Aw9 (GZ g f) (Ayv (l*(AzV g (f+h)))))).bind fun m=>cond (Fb f g) (cond (Av1 (f+h) (g.set (Axd f) j)) (k (.c2 n h i l (NM f) ((g.set (Axd f) j).set (Ic (f+h)) m))) none) none) none) none) none) (k (.c1 n h (AxZ i (Ayv (2*h))) g)))
def Qg:AzH OAe (List Int)
 |0,_=>none
 |m+1,s=>dD VY xP cZ cu RS (Qg m) s
def dB:GV:=XA8 VY xP cZ cu RS (Qg AY)
def LBK:Avb:=fy u1 dB Wn JZ [DAq,HBg,JBK,KBK,DAe] Tryz.func263 KBg dD XA8 Qg
inductive PAe where
 |c0 (a:(List (List Int))) (b d:Int) (e:(List (List Int)))
def LBg:PAe->Avm
 |.c0 a b d e=>(tdo Tryz.f229 232,[vo 3 240,vr 6 37 a,vi 7 b,vi 8 d],[(240,.sl 37 e)])
def YA8 (b:GV) (k:Aw7 PAe (List (List Int))):JAj:=fun a=>k (.c0 a (a.length:Int) 0 [])
def ZA8 (a:GV) (k:Aw7 PAe (List (List Int))):Aw7 PAe (List (List Int))
 |.c0 c e b d=>mk (cond (KZ b e) (cond (Fa b c.length) ((a (c.getD (Axd b) [])).bind fun f=>cond (YG d) (k (.c0 c e (NM b) (d++[f]))) none) none) (some d))
def EAq:AzH PAe (List (List Int))
 |0,_=>none
 |m+1,s=>ZA8 dB (EAq m) s
def dF:JAj:=YA8 dB (EAq AY)
def MBg:Avb:=fy u1 dF Ae6 AEd [LBK] Tryz.func229 LBg ZA8 YA8 EAq
inductive QAe where
 |c0 (a b:Int) (d:F6) (e:(List Int))
 |c1 (a b:Int) (f g:Int) (d:F6) (e h:(List Int))
def NBg:QAe->Avm
 |.c0 b d a e=>(tdo Tryz.f270 2000,[vp 7 448,vo 8 560,vi 9 b,vi 10 d],[(448,.var [.str a.F7,li a.ER]),(560,.sl 3 e)])
 |.c1 b d f g a e h=>(tdo Tryz.f270 512632,[vp 7 448,vo 8 560,vi 9 b,vi 10 d,vo 60 3888,vi 61 f,vi 62 g],[(448,.var [.str a.F7,li a.ER]),(560,.sl 3 e),(3888,.sl 3 h)])
def ALV (d:AzI) (h:Ayu) (i:WX) (k:Aw7 QAe (List Int)):aA:=fun b f g=>mk ((d f).bind fun a=>cond (LZ b a) ((d g).bind fun c=>cond (Awg b a c) ((h ((b++a)++c)).bind fun e=>k (.c0 0 0 e YI)) none) none)
def kS (a:AzI) (b:Ayu) (c:WX) (k:Aw7 QAe (List Int)):Aw7 QAe (List Int)
 |.c0 g f h e=>mk (cond (f<4000) (cond (AyO g) ((c h 3).bind fun d=>cond (WR Qa (Awq d.2)) (cond (XAV (Awq d.2)) (cond (TAV (Awq d.2)) (k (.c1 g f ((2:Nat):Int) 0 d.1 e [OU (bt d.2 0) (((Ayv (bt d.2 1)).tmod 16)*256),OU ((Ayv (bt d.2 1)).tdiv 16) (16*(Ayv (bt d.2 2)))])) none) none) none) (Md e)) (Md e))
 |.c1 e i h d j g f=>mk (cond (KZ d h) (cond (Fb d f) (cond (aV (GZ f d)) (cond (AyO e) (cond (Fb e g) (k (.c1 (NM e) i h (NM d) j (g.set (Axd e) (GZ f d)) f)) none) (k (.c1 e i h (NM d) j g f))) (k (.c1 e i h (NM d) j g f))) none) (k (.c0 e (NM i) j g)))
def U1:AzH QAe (List Int)
 |0,_=>none
 |m+1,s=>kS KP qy bZ (U1 m) s
def dG:aA:=ALV KP qy bZ (U1 AY)
def OBg:Avb:=fy u3 dG wR JZ [Wi,HBK,IBK] Tryz.func270 NBg kS ALV U1
inductive RAe where
 |c0 (a:AA) (b:Int) (d:Bool) (e:Int) (f:(List (List Int)))
def PBg:RAe->Avm
 |.c0 a b d e f=>(tdo Tryz.f234 232,[vs 0 a,vi 1 b,vb 2 d,vo 7 496,vi 9 e],[(496,.sl 37 f)])
def BA9 (d:aA) (k:Aw7 RAe (List (List Int))):KAj:=fun a b c=>k (.c0 a b c 0 [])
def CA9 (a:aA) (k:Aw7 RAe (List (List Int))):Aw7 RAe (List (List Int))
 |.c0 d e f b c=>mk (cond (U5 b) (cond f ((a d e b).bind fun g=>cond (YG c) (k (.c0 d e f (NM b) (c++[g]))) none) ((a d b e).bind fun h=>cond (YG c) (k (.c0 d e f (NM b) (c++[h]))) none)) (some c))
def FAq:AzH RAe (List (List Int))
 |0,_=>none
 |m+1,s=>CA9 dG (FAq m) s
def dI:KAj:=BA9 dG (FAq AY)
def QBg:Avb:=fy u3 dI AU3 AEd [OBg] Tryz.func234 PBg CA9 BA9 FAq
inductive SAe where
 |c0 (a b:(List Int)) (d:Int) (e:(List Int))
def RBg:SAe->Avm
 |.c0 a b d e=>(tdo Tryz.f269 488,[vr 0 3 a,vr 1 3 b,vo 5 368,vi 21 d],[(368,.sl 3 e)])
def DA9 (b:Nc) (f:Ay4) (g:Je) (h:Ay4) (k:Aw7 SAe (List Int)):Uk:=fun c e=>mk ((b c).bind fun a=>cond (!a) (Md []) ((b e).bind fun d=>cond (!d) (Md []) (k (.c0 c e 0 YI))))
def EA9 (a:Nc) (b:Ay4) (c:Je) (d:Ay4) (k:Aw7 SAe (List Int)):Aw7 SAe (List Int)
 |.c0 f g e h=>mk (cond (e<128) ((b e).bind fun j=>(c 17 (Axq j)).bind fun l=>cond (Av1 (2*e) f) (cond (Ayf (Axq e) (Aw3 f)) (cond (Av1 (2*e) g) (cond (Ayf (Axq e) (Aw3 g)) ((d (OU ((AzV f (2*e))*(AzV g (2*e))) ((jD (GZ f (Axq e)) (GZ g (Axq e)))*l))).bind fun i=>cond (Av1 (2*e) h) ((d (OU ((AzV f (2*e))*(GZ g (Axq e))) ((GZ f (Axq e))*(AzV g (2*e))))).bind fun m=>cond (Ayf (Axq e) (Aw3 (h.set (Ic (2*e)) i))) (k (.c0 f g (NM e) ((h.set (Ic (2*e)) i).set (Axd (Axq e)) m))) none) none) none) none) none) none) (Md h))
def kT:AzH SAe (List Int)
 |0,_=>none
 |m+1,s=>EA9 VY cZ cu RS (kT m) s
def xU:Uk:=DA9 VY cZ cu RS (kT AY)
def SBg:Avb:=fy u2 xU bK JZ [DAq,JBK,KBK,DAe] Tryz.func269 RBg EA9 DA9 kT
def FA9:Je:=fun a b=>mk (some (AxZ a b))
def GAq:Je:=FA9
def TBg:Avb:=BI u2 GAq wP FN [] Tryz.func268 FA9
def MBK:Je:=fun a b=>mk (some (Aw9 a b))
def GA9:Je:=MBK
def UBg:Avb:=BI u2 GA9 wP FN [] Tryz.func342 MBK
inductive UAe where
 |c0 (a b:(List Int)) (d:Nat) (e f:Int) (g:(List Int))
def VBg:UAe->Avm
 |.c0 a b d e f g=>(tdo Tryz.f267 488,[vr 0 3 a,vr 1 3 b,(2,[.one (.fn d)]),vo 7 496,vi 19 e,vi 20 f],[(496,.sl 3 g)])
def HA9 (b:Nc) (g h:Je) (i:Ay4) (k:Aw7 UAe (List Int)):WAv:=fun c e f=>mk ((b c).bind fun a=>cond (!a) (Md []) ((b e).bind fun d=>cond (!d) (Md []) (k (.c0 c e f (Aw3 YI) 0 YI))))
def HAq (a:Nc) (b c:Je) (d:Ay4) (k:Aw7 UAe (List Int)):Aw7 UAe (List Int)
 |.c0 g h f j e i=>mk (cond (KZ e j) (cond (Fb e g) (cond (Fb e h) (cond (Nat.beq f 268) ((b (GZ g e) (GZ h e)).bind fun l=>(d l).bind fun m=>cond (Fb e i) (k (.c0 g h f j (NM e) (i.set (Axd e) m))) none) (cond (Nat.beq f 342) ((c (GZ g e) (GZ h e)).bind fun n=>(d n).bind fun o=>cond (Fb e i) (k (.c0 g h f j (NM e) (i.set (Axd e) o))) none) (cond (Nat.beq f 362) none (cond (Nat.beq f 363) none none)))) none) none) (Md i))
def kU:AzH UAe (List Int)
 |0,_=>none
 |m+1,s=>HAq VY GAq GA9 RS (kU m) s
def IAq:WAv:=HA9 VY GAq GA9 RS (kU AY)
def WBg:Avb:=fy u3 IAq Ae7 JZ [DAq,TBg,UBg,DAe] Tryz.func267 VBg HAq HA9 kU
def IA9 (b:WAv):Uk:=fun c d=>mk ((b c d 268).bind fun a=>Md a)
def VZ:Uk:=IA9 IAq
def NBK:Avb:=BI u2 VZ bK JZ [WBg] Tryz.func232 IA9
inductive VAe where
 |c0 (a:(List (List Int))) (b:(List (List Int))) (d e:Int) (f:(List Int))
def XBg:VAe->Avm
 |.c0 a b d e f=>(tdo Tryz.f233 232,[vr 0 37 a,vr 1 37 b,vo 5 368,vi 9 d,vi 10 e],[(368,.sl 3 f)])
def JA9 (c d:Uk) (k:Aw7 VAe (List Int)):Tt:=fun a b=>mk (k (.c0 a b (a.length:Int) 0 YI))
def JAq (a b:Uk) (k:Aw7 VAe (List Int)):Aw7 VAe (List Int)
 |.c0 d e f c i=>mk (cond (KZ c f) (cond (Fa c d.length) (cond (Fa c e.length) ((a (d.getD (Axd c) []) (e.getD (Axd c) [])).bind fun g=>(b i g).bind fun h=>k (.c0 d e f (NM c) h)) none) none) (Md i))
def kV:AzH VAe (List Int)
 |0,_=>none
 |m+1,s=>JAq xU VZ (kV m) s
def Yo:Tt:=JA9 xU VZ (kV AY)
def OBK:Avb:=fy u2 Yo AUj JZ [SBg,NBK] Tryz.func233 XBg JAq JA9 kV
inductive WAe where
 |c0 (a:Int) (b:(List Int)) (d e:Int) (f:(List Int))
 |c1 (a g h:Int) (b:(List Int)) (d e:Int) (i j:Int) (f:(List Int))
def YBg:WAe->Avm
 |.c0 a b d e f=>(tdo Tryz.f266 232,[vi 1 a,vo 5 368,vr 17 3 b,vi 18 d,vi 19 e],[(368,.sl 5 f)])
 |.c1 a g h b d e i j f=>(tdo Tryz.f266 59800,[vi 1 a,vo 5 368,vi 6 g,vi 7 h,vr 17 3 b,vi 18 d,vi 19 e,vi 24 i,vi 25 j],[(368,.sl 5 f)])
def KA9 (k:Aw7 WAe AA):uj:=fun a b=>mk (cond ((PAj (Ayv (Avy (Ayv ((Ayv ((Aw3 a)*b))+7))))) && (FC ((Ic (Avy (Ayv ((Ayv ((Aw3 a)*b))+7))))*1))) (k (.c0 b a (Aw3 a) 0 (List.replicate (Ic (Avy (Ayv ((Ayv ((Aw3 a)*b))+7)))) Qa))) none)
def KAq (k:Aw7 WAe AA):Aw7 WAe AA
 |.c0 d b c a e=>mk (cond (KZ a c) (cond (Fb a b) (k (.c1 d a (GZ b a) b c a d 0 e)) none) (AxU e))
 |.c1 b c f g h i e a d=>mk (cond (KZ a e) (cond (Av1 (Avy (AxZ (Ayv (c*b)) a)) d) (cond (Av7 a) (cond (Av7 ((AxZ (Ayv (c*b)) a).tmod 8)) (cond (Av1 (Avy (AxZ (Ayv (c*b)) a)) d) (k (.c1 b c f g h i e (NM a) (d.set (Ic (Avy (AxZ (Ayv (c*b)) a))) (w8 (aO QH (AzV d (Avy (AxZ (Ayv (c*b)) a))) (w8 ((w8 (Ayv (WY Qh (Qs f (Vx a)))))*(Nj (Axd ((AxZ (Ayv (c*b)) a).tmod 8)) QH)))))))) none) none) none) none) (k (.c0 b g h (NM i) d)))
def Yp:AzH WAe AA
 |0,_=>none
 |m+1,s=>KAq (Yp m) s
def xW:uj:=KA9 (Yp AY)
def PBK:Avb:=fy u2 xW wQ Cc [] Tryz.func266 YBg KAq KA9 Yp
def LA9 (c:Nc) (d:uj):Avk:=fun b=>mk ((c b).bind fun a=>cond (!a) AzP (Ax9 (d b 12)))
def dK:Avk:=LA9 VY xW
def ZBg:Avb:=BI u1 dK Wn Cc [DAq,PBK] Tryz.func231 LA9
inductive YAe where
 |c0 (a b:AA) (d e:AA) (f:Int) (g:Ky) (h:(List (List Int))) (i:(List (List Int)))
def AsA:YAe->Avm
 |.c0 b d e f g a h i=>(tdo Tryz.f170 4072,[vp 2 128,vs 4 b,vs 5 d,vo 7 496,vo 8 560,vs 9 e,vs 10 f,vi 30 g],[(128,.var [.str a.bH,.str a.bI]),(496,.sl 37 h),(560,.sl 37 i)])
def MA9 (b:AwT) (g:IAj) (i:JAj) (m:KAj) (n:Tt) (o:Uk) (p:Avk) (k:Aw7 YAe (Ky×Bool)):aC:=fun d=>mk (cond ((Awq d) != 32) (some (⟨Awp,Awp⟩,false)) ((b d).bind fun a=>cond (LZ a (Ax6 ⟨#[114]⟩)) ((b (a++(Ax6 ⟨#[114]⟩))).bind fun e=>cond (LZ a (Ax6 ⟨#[115]⟩)) ((b (a++(Ax6 ⟨#[115]⟩))).bind fun c=>(g c 0).bind fun f=>(i f).bind fun h=>(g c 2).bind fun j=>(i j).bind fun l=>k (.c0 a e Awp Awp 0 ⟨Awp,Awp⟩ h l)) none) none))
def xY (a:AwT) (b:IAj) (c:JAj) (d:KAj) (e:Tt) (f:Uk) (g:Avk) (k:Aw7 YAe (Ky×Bool)):Aw7 YAe (Ky×Bool)
 |.c0 r h i l j w m o=>mk (cond (U5 j) ((d h j false).bind fun t=>(e t m).bind fun u=>cond (Fa j o.length) ((f u (o.getD (Axd j) [])).bind fun v=>(g v).bind fun p=>cond (LZ i p) (cond (Fa j m.length) ((g (m.getD (Axd j) [])).bind fun q=>cond (LZ l q) (k (.c0 r h (i++p) (l++q) (NM j) w m o)) none) none) none) none) (cond (LZ i h) (cond (LZ l (i++h)) ((a (i++h)).bind fun n=>cond (Awg l (i++h) n) (cond (LZ r (Ax6 ⟨#[122]⟩)) ((a (r++(Ax6 ⟨#[122]⟩))).bind fun s=>cond (Awg (l++(i++h)) n s) (some (⟨i++h,((l++(i++h))++n)++s⟩,true)) none) none) none) none) none))
def kX:AzH YAe (Ky×Bool)
 |0,_=>none
 |m+1,s=>xY J9 cO dF dI Yo VZ dK (kX m) s
def xX:aC:=MA9 J9 cO dF dI Yo VZ dK (kX AY)
def QBK:Avb:=fy u1 xX Cc AUk [TW,FBg,MBg,QBg,OBK,NBK,ZBg] Tryz.func170 AsA xY MA9 kX
def NA9:ug:=fun _=>none
def BBh:Avb:=fs u1 NA9 Cc AUl 305
def OA9:XAv:=fun _ _ _=>none
def CBh:Avb:=fs u3 OA9 wR AKk 306
def PA9:jB:=fun _ _=>none
def DBh:Avb:=fs u2 PA9 wQ JZ 307
def QA9:GV:=fun _=>none
def EBh:Avb:=fs u1 QA9 Wn JZ 309
def RA9:Uk:=fun _ _=>none
def FBh:Avb:=fs u2 RA9 bK JZ 308
inductive BAf where
 |c0 (a:AA) (b:Int) (d:(List (List Int))) (e:(List (List Int)))
def GBh:BAf->Avm
 |.c0 a b d e=>(tdo Tryz.f271 2024,[vs 1 a,vo 6 432,vo 8 560,vi 29 b],[(432,.sl 37 d),(560,.sl 37 e)])
def SA9 (d:ug) (e:XAv) (f:jB) (g:GV) (h:Tt) (i:GV) (j:Uk) (k:Aw7 BAf (List Int×Bool)):uh:=fun b c=>mk (cond ((Awq b) != 1632) (some ([],false)) (cond ((Awq c) != 768) (some ([],false)) ((d b).bind fun a=>cond (!a.2) (some ([],false)) (k (.c0 c 0 a.1 [])))))
def RBK (a:ug) (b:XAv) (c:jB) (d:GV) (e:Tt) (f:GV) (g:Uk) (k:Aw7 BAf (List Int×Bool)):Aw7 BAf (List Int×Bool)
 |.c0 i h o j=>mk (cond (U5 h) (cond (Om (Ayv (h*320)) (Ayv ((NM h)*320)) (Awq i)) ((b (i.extract (Ic (h*320)) (Ic ((NM h)*320))) 10 256).bind fun l=>(c l.1 10).bind fun m=>(d m).bind fun n=>cond (YG j) (k (.c0 i (NM h) o (j++[n]))) none) none) (cond ((Av2 Qa (640:Int)) && (decide (640<=(Awq i)))) ((b (QJ i (640:Int)) 4 256).bind fun p=>(c p.1 4).bind fun q=>(e o j).bind fun r=>(f r).bind fun s=>(g q s).bind fun t=>some (t,true)) none))
def TA9:AzH BAf (List Int×Bool)
 |0,_=>none
 |m+1,s=>RBK NA9 OA9 PA9 dB Yo QA9 RA9 (TA9 m) s
def UA9:uh:=SA9 NA9 OA9 PA9 dB Yo QA9 RA9 (TA9 AY)
def HBh:Avb:=fy u2 UA9 KJ AKk [BBh,CBh,DBh,LBK,OBK,EBh,FBh] Tryz.func271 GBh RBK SA9 TA9
def SBK:jB:=fun _ _=>none
def IBh:Avb:=fs u2 SBK wQ JZ 272
def VA9 (d:uh) (g:jB) (h:uj):AxO:=fun e f=>mk ((d e f).bind fun a=>cond (!a.2) (MZ (Awp,false)) ((g a.1 1).bind fun b=>(h b 1).bind fun c=>MZ (c,true)))
def WA9:AxO:=VA9 UA9 SBK xW
def JBh:Avb:=BI u2 WA9 KJ IQ [HBh,IBh,PBK] Tryz.func235 VA9
def TBK:BAj:=fun _ _=>none
def KBh:Avb:=fs u2 TBK KJ AUm 236
def XA9 (h:AxO) (i:BAj) (f:AwT):AxO:=fun a b=>mk ((h a b).bind fun d=>cond (!d.2) (MZ (Awp,false)) (FK (MAw a) ((i (a.extract (Axd (768:Int)) (Axd (1568:Int))) d.1).bind fun c=>cond c.2.2 (cond (Aww c.1 b) (MZ (c.2.1,true)) (FK ((Av2 Qa (1600:Int)) && (decide (1600<=(Awq a)))) (FK (LZ (QJ a (1600:Int)) b) ((f ((QJ a (1600:Int))++b)).bind fun e=>MZ (e,true))))) (FK ((Av2 Qa (1600:Int)) && (decide (1600<=(Awq a)))) (FK (LZ (QJ a (1600:Int)) b) ((f ((QJ a (1600:Int))++b)).bind fun g=>MZ (g,true)))))))
def kY:AxO:=XA9 WA9 TBK J9
def LBh:Avb:=BI u2 kY KJ IQ [JBh,KBh,TW] Tryz.func171 XA9
def YA9 (e:AwZ):um:=fun a c b=>mk ((e a).bind fun d=>cond (!d) (some (⟨0,0,false,false,false,false,Awp,0⟩,false)) (cond (AzT a) (cond (!c) (some (⟨0,0,false,false,false,false,Awp,0⟩,false)) (cond (Awk a) (cond (!b) (some (⟨0,0,false,false,false,false,Awp,0⟩,false)) (some (X9 a c b,true))) (some (X9 a c b,true)))) (cond (Awk a) (cond (!b) (some (⟨0,0,false,false,false,false,Awp,0⟩,false)) (some (X9 a c b,true))) (some (X9 a c b,true)))))
def LAq:um:=YA9 Xv
def MBh:Avb:=BI u3 LAq AUn Yb [ADM] Tryz.func172 YA9
def ZA9 (b:AwT):AwT:=fun a=>mk (AxL (LZ a QK) (Ax9 (b (a++QK))))
def MAq:AwT:=ZA9 qM
def NBh:Avb:=BI u1 MAq Cc Cc [Abz] Tryz.func237 ZA9
def ALr (d:AwZ) (e:aC) (f:AwT):uo:=fun a=>mk ((d a).bind fun b=>cond (!b) AzP (cond ((Nb a) == 1) ((e (Oc a)).bind fun c=>some c.1.bH) (cond ((Nb a) == 2) (Ax9 (f (Oc a))) AzP)))
def NAq:uo:=ALr Xv xX MAq
def OBh:Avb:=BI u1 NAq S9 Cc [ADM,QBK,NBh] Tryz.func173 ALr
def BBA (d:uO) (r:Tq) (s:Td) (t:WU) (u:AxO) (v:aC) (w:AxO) (c:jA) (x:um) (y:uo):Tq:=fun i a b=>mk (cond (a.Au == 6) ((d b 1).bind fun g=>cond g (some ([],0,Oc b)) (AwK (c 8))) (cond (a.Au == 5) ((d b 3).bind fun h=>cond h (AwK (r i a b)) (AwK (c 8))) (cond (a.Au == 10) ((d b 2).bind fun j=>cond j ((s b).bind fun l=>(t i).bind fun m=>(u m l.1).bind fun n=>some ([],0,n.1)) (AwK (c 8))) (cond (a.Au == 12) ((d b 4).bind fun o=>cond o ((v (Oc b)).bind fun p=>(w p.1.bI a.fText).bind fun e=>cond (!e.2) (AwK (c 6)) (some ([],0,e.1))) (AwK (c 8))) (cond (a.Au == 8) ((x b a.CY a.CX).bind fun f=>cond f.2 (some ([⟨3,Awp,0,f.1⟩],0,Awp)) (AwK (c 8))) (cond (a.Au == 7) ((y b).bind fun q=>some ([],0,q)) (cond (a.Au == 9) (some ([⟨4,Awp,b.fId,⟨0,0,false,false,false,false,Awp,0⟩⟩],0,Awp)) (AwK (c 8)))))))))
def OAq:Tq:=BBA BAp UAp tV SAc VAp xX kY ZN LAq NAq
def PBh:Avb:=BI u3 OAq AEp Oh [EBe,GBf,FA4,SBJ,HBf,QBK,LBh,PAc,MBh,OBh] Tryz.func117 BBA
def PAq (j:Qn) (l:X4) (c:jA) (m:AzI) (n:Jv) (o:Rk) (p:AwT) (q r:Rk) (s:Qk) (t:Tq):Rk:=fun b a=>mk ((j b).bind fun f=>cond (!f) (AwK (c 9)) (cond (!b.CZ) (AwK (c 9)) ((l a).bind fun g=>cond (!g) (AwK (c 9)) (cond ((SL b)>=10000) (AwK (c 9)) (cond (a.Au == 1) (cond ((Me b:Int)>=3) (AwK (c 1)) (cond ((Gy b)>=1000) (AwK (c 1)) ((m (NM (Gy b))).bind fun h=>some ([],0,h)))) ((n b (Ay1 a)).bind fun d=>cond (Ayn d) (AwK (c 2)) (cond (a.Au == 13) (some ([],0,Awp)) (cond (a.Au == 2) (AwK (o b a)) (cond (Fa d (Me b)) (cond (!(Vl (Qd b) d ⟨0,false⟩).QW) (AwK (c 5)) (cond (a.Au == 3) (cond ((Awq a.fText) > 20) (AwK (c 6)) ((p a.fText).bind fun i=>some ([⟨1,i,0,⟨0,0,false,false,false,false,Awp,0⟩⟩],0,Awp))) (cond (a.Au == 4) (AwK (q b a)) (cond (a.Au == 11) (AwK (r b a)) ((s (La b) a.Ag).bind fun e=>cond (!e.2) (AwK (c 7)) (AwK (t b a e.1))))))) none)))))))))
def RZ:Rk:=PAq XD WAb ZN Yr qG WAo J9 YAo AH3 SA OAq
def QBh:Avb:=BI u2 RZ bM Oh [ASZ,BBJ,PAc,GA6,QBJ,YBd,TW,Aqs,DBe,KAc,PBh] Tryz.func68 PAq
inductive CAf where
 |c0 (a:(List Int)) (b d:Int) (e f:(List BQ))
def RBh:CAf->Avm
 |.c0 a b d e f=>(tdo Tryz.f174 488,[vr 1 3 a,vp 4 256,vp 6 384,vi 18 b,vi 19 d],[(256,.var [.own 1016384]),(384,.var [.own 1024576]),(1016384,.sl 90 e),(1024576,.sl 90 f)])
end
end Go.Proofs.YtkbbicgglblfiaaGreatDoor.G
