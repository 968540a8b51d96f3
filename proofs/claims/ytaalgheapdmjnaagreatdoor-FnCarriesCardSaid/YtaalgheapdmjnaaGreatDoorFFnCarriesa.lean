/- Functions of the program, told by plain functions: part 1 of 2. -/
import Derived.Test.YtaalgheapdmjnaaGreatDoorCtx
namespace Go.Proofs.YtaalgheapdmjnaaGreatDoor.G
open Go Go.Ev
noncomputable section
set_option linter.unusedVariables false
set_option maxRecDepth 100000
set_option maxHeartbeats 4000000
set_option linter.unusedSectionVars false
variable [PC]
abbrev Arb:=Fk ctx PP
abbrev Asu:=AQn ctx
abbrev pJ:=Unit->Option Bool
abbrev OAp:=Unit->Option C9
abbrev yh:=C9->Option (Int×C9)
abbrev Ti:=C9->Int->Option (Int×C9)
abbrev Yh:=Int->Int->Option AA
abbrev Au9:=Option (List Int)
abbrev Ate:=List Int->Option AA
abbrev PAp:=Option Hz
abbrev As1:=Int->Int->Int->Option Bool
abbrev pK:=Hz->Option Bool
abbrev RAd:=AA->Int->Option Int
abbrev ArT:=AA->Option (List Int)
abbrev QAp:=Int->Int->Int->Option Int
abbrev SAd:=Int->Int->Int->Int->Bool->Option Int
abbrev pO:=List Int->List Int->AA->Option (List Int)
abbrev RAp:=Hz->AA->Option Hz
abbrev SAp:=Hz->Option AA
abbrev As8:=AA->Option AA
abbrev P8:=Option Bf
abbrev QZ:=Int->Option AA
abbrev OL:=Ah->Option Bool
abbrev TAp:=Bool->Int->Option Int
abbrev AvL:=Ah->Option (AA×Bool)
abbrev Arm:=Aq->Option (AA×Bool)
abbrev Tj:=Bf->Option Bool
abbrev AuQ:=Bf->Option Bf
abbrev At1:=Bf->Int->Option (Ah×Bool)
abbrev dQ:=Ah->Ah->Option Bool
abbrev TAd:=List Ah->Ah->Option (List Ah)
abbrev Asm:=Bf->Aq->Option (Bf×Bool)
abbrev Asp:=AA->Int->Option AA
abbrev AvH:=AA->AA->Option AA
abbrev Yi:=AA->Int->Int->Option (AA×Bool)
abbrev Yj:=AA->Int->AA->Option AA
abbrev Wl:=AA->Int->AA->Option (AA×Bool)
abbrev pR:=Int->AA->Option Int
abbrev Yk:=AA->Option Int
abbrev Aur:=AA->Option (AA×Bool)
abbrev Aro:=AA->Int->Aq->Option (List ET×Bool)
abbrev yj:=AA->Option Bool
abbrev OJ:=BO->Option Bool
abbrev Td:=BO->AA->Option Int
abbrev pG:=BO->BQ->Option BO
abbrev Ye:=BO->AA->Option BO
abbrev Yg:=BO->ET->Option (BO×Bool)
abbrev AvN:=BO->List ET->Option (BO×Int)
abbrev yt:=AA->BO->Int->Aq->Option BO
abbrev UAp:=AA->AA->Option (Aj×Bool)
abbrev pU:=AA->AA->Option (Cm×Bool)
abbrev dR:=C9->Int->Option (Bool×C9)
abbrev UAd:=C9->List Int->Option (Int×C9)
abbrev yu:=C9->List AA->Option (AA×C9)
abbrev VAp:=C9->Int->Option (AA×C9)
abbrev VAd:=C9->Option (Ah×C9)
abbrev VL:=Aj->Option AA
abbrev Au0:=AA->AA->Option (AA×Bool)
abbrev WAd:=C9->Aj->AA->Option (CJ×C9)
abbrev XAd:=C9->Cm->Option (EN×C9×Cm)
abbrev dS:=Cm->Int->AA->Option Cm
abbrev dU:=Int->AA->Option (List Aq×Int×AA)
abbrev Mc:=Int->Option Int
abbrev dV:=List Aq->AA->Option (List Aq×Int×AA)
abbrev Wh:=Aj->Int->Option Int
abbrev J7:=Aj->CJ->Option (List Aq×Int×AA)
abbrev pV:=Int->AA->Option (Ah×Bool)
abbrev yw:=Ah->Option (List Aq)
abbrev Yl:=Aj->CJ->Ah->Bool->Option (List Aq×Int×AA)
abbrev WAp:=AA->AA->Option Bool
abbrev Q5:=AA->Int->Option (Int×Int×Bool)
abbrev Ym:=Jg->Option (Int×Jg)
abbrev yx:=Jg->Int->Option (AA×Jg)
abbrev XAp:=Jg->Option (AA×Jg)
abbrev Yn:=AA->Option (Ah×Bool)
abbrev pW:=Ah->Option Ah
abbrev pX:=Ah->Int->Option Bool
abbrev YAd:=Aj->Ah->Option Int
abbrev VN:=AA->Int->Option (List AA)
abbrev SB:=AA->Int->Int->Int->Int->Option AA
abbrev Yo:=List AA->Int->Option AA
abbrev Yp:=AA->Option (List AA)
abbrev Yq:=Int->Int->AA->AA->Option AA
abbrev SC:=Int->List AA->Option (List AA)
abbrev pY:=List AA->Option AA
abbrev pq:=List AA->Int->AA->Option (List AA)
abbrev pz:=List AA->Int->Option (List AA)
abbrev qA:=AA->Int->AA->Option (Hu×Bool)
abbrev qB:=AA->Int->AA->Option (MS×Bool)
abbrev Yr:=Hu->Option Bool
abbrev qC:=Hu->Option (AA×Bool)
abbrev qE:=MS->Option (AA×Bool)
abbrev SE:=Aj->CJ->Ah->Option (List Aq×Int×AA)
abbrev AsW:=Int->Int->Option Int
abbrev ZAd:=List Int->List Int->Int->Option (List Int)
abbrev Ud:=List Int->Option (List Int)
abbrev qF:=AA->Int->Int->Option AA
abbrev Asb:=AA->Option FY
abbrev VP:=FY->Int->Option (FY×AA)
abbrev Yt:=AA->Int->Int->Option (List Int)
abbrev AG7:=AA->Option (List (List Int))
abbrev Yu:=AA->Int->Option (AA×Bool)
abbrev Uy:=AA->Int->Option (List Int)
abbrev AuJ:=List Int->Option Bool
abbrev YAp:=List Int->Int->Option (AA×Bool)
abbrev J8:=List Int->List Int->Option (List Int)
abbrev SG:=List (List Int)->List (List Int)->Option (List Int)
abbrev Yv:=AA->Option (KG×Bool)
abbrev qG:=AA->Option (List (List Int)×Bool)
abbrev qH:=AA->AA->Option (List Int×Bool)
abbrev qI:=List Int->Int->Option AA
abbrev BAe:=AA->AA->Option (AA×AA×Bool)
abbrev qJ:=Ah->Bool->Bool->Option (Ah×Bool)
abbrev qK:=Ah->Option AA
abbrev ZAp:=BO->List Int->Option (BO×Bool)
abbrev CAe:=BO->List ET->Int->List Int->Option (BO×Bool)
abbrev Yw:=BO->AA->Option (AA×Bool)
abbrev Yx:=AA->Option (List AA×Int)
abbrev Yy:=AA->Option (Aq×Bool)
abbrev Yz:=AA->AA->Option (List Aq×Int)
abbrev qL:=Cm->Aq->Option Cm
abbrev MG:=Aj->Option Aj
abbrev DAe:=AA×Bool×List BQ×AA×Int×Unit×Int×AA×Int×Unit×Unit×Int->Option Aj
abbrev EAe:=Cm->Aq->List Int->Option Cm
abbrev FAe:=List Cc->Int->Int->Option (List Cc)
abbrev Yd:=Aj->CJ->Int->Int->Option Aj
abbrev Atm:=Cm->Int->EN->Option Cm
abbrev Rx:=Bf->Bf->Option Bool
abbrev qM:=Bf->List Aq->Option (Bf×Bool)
abbrev Aul:=AA->BO->Option (Bf×List ET×Bool)
abbrev Na:=Aj->Option Bool
abbrev dP:=Aj->Option (Aj×Bool)
abbrev APm:=C9->Unit->Option (OW×C9)
abbrev Y0:=CJ->Option Bool
abbrev GAe:=EN->Option Bool
abbrev BAq:=AA->AA->List EN->Option (Cm×Bool)
abbrev CAq:=C9->Unit->Option (Aj×C9)
abbrev HAe:=Unit->Option (Aj×CJ)
abbrev IAe:=List Int->AA->Option (List Int)
abbrev DAq:=List Int->AA->Option (List Int×AA)
abbrev EAq:=List Ah->List Ah->Option Bool
abbrev JAe:=Int->Option (AA×Bool)
abbrev FAq:=KD->Option (Int×KD)
abbrev KAe:=AA->Int->Option (AA×Int×Bool)
abbrev GAq:=KD->Option (AA×KD)
abbrev HAq:=Ah->Option Int
abbrev y5:=Bf->Int->Option Int
abbrev IAq:=Bf->Ah->Option (Bool×Bf)
abbrev dW:=Int->Option (List Aq×Int×AA)
abbrev dX:=List Int->Int->Option (List Int)
abbrev WA8:=List Int->Int->Int->Bool->Bool->Option (List Int×AA)
abbrev JAq:=List AA->Int->Nat->Nat->Option AA
abbrev KAq:=List AA->Int->Option Bool
abbrev LAe:=AA->Int->Option (List (List Int))
abbrev MAe:=List (List Int)->Option (List (List Int))
abbrev NAe:=AA->Int->Bool->Option (List (List Int))
abbrev LAq:=List Int->List Int->Nat->Option (List Int)
abbrev MAq:=AA->Int->Int->Option (List Int×Bool)
abbrev dN:=BO->Option BO
abbrev OAe:=Aj->Int->Int->Option Aj
def AuS (a:Int):Bool:=decide (0<=a)
def ArF (a b:Int):Bool:=decide (a<b)
def AtI (a b:Int):Bool:=(AuS a) && (ArF a b)
def IK:AA:=⟨#[]⟩
def ArQ:BQ:=(⟨IK,IK,0⟩:BQ)
def IZ (a:Int):Nat:=a.toNat
def Atk (a:BO) (b:Int):BQ:=a.Ai.getD (IZ b) ArQ
def AsU (a b:AA):Bool:=decide ((a.size+b.size)<=9223372036854775807)
def Arj (a:Nat) (b c:Int):Int:=((BitVec.toNat ((BitVec.ofInt a b) ^^^ (BitVec.ofInt a c)):Nat):Int)
def Ic (a:Nat):Bool:=decide (a<=140737488355328)
def AuT (a:AA):List UInt8:=ByteArray.toList a
def EZ (a b:AA):Bool:=(AuT a) == (AuT b)
def AsJ (b:Option (List Aq×Int×AA)):Option (List Aq×Int×AA):=b.bind fun a=>some (a.1,a.2.1,a.2.2)
def Arp:Nat:=IntKind.bits IntKind.u32
def FN (a:Int):Int:=AU a
def NM (a:Int):Int:=FN (a+1)
def GN (a b:Int):Bool:=decide (a<=b)
def Jf (a b:Int):Bool:=(AuS a) && (GN a b)
def Auc:Nat:=IntKind.bits IntKind.i64
def NZ (a:List Int):Int:=(a.length:Int)
def Asw (a:C9):C9:=⟨(),a.fI,a.fH⟩
def Aq5 (a:AA):Int:=(a.size:Int)
def Arc (a:List Int) (b:Int):Int:=a.getD (IZ b) 0
def O3 (b:Option Bool) (c d:Option (BO×Bool)):Option (BO×Bool):=b.bind fun a=>cond (!a) c d
def Ja (a:List Ah) (b:Int) (c:Ah):Ah:=a.getD (IZ b) (c:Ah)
def AtW (a:Int) (b:Nat):Bool:=AtI a (b:Int)
def NAq:List Int:=[(1116352408:Int),(1899447441:Int),(3049323471:Int),(3921009573:Int),(961987163:Int),(1508970993:Int),(2453635748:Int),(2870763221:Int),(3624381080:Int),(310598401:Int),(607225278:Int),(1426881987:Int),(1925078388:Int),(2162078206:Int),(2614888103:Int),(3248222580:Int),(3835390401:Int),(4022224774:Int),(264347078:Int),(604807628:Int),(770255983:Int),(1249150122:Int),(1555081692:Int),(1996064986:Int),(2554220882:Int),(2821834349:Int),(2952996808:Int),(3210313671:Int),(3336571891:Int),(3584528711:Int),(113926993:Int),(338241895:Int),(666307205:Int),(773529912:Int),(1294757372:Int),(1396182291:Int),(1695183700:Int),(1986661051:Int),(2177026350:Int),(2456956037:Int),(2730485921:Int),(2820302411:Int),(3259730800:Int),(3345764771:Int),(3516065817:Int),(3600352804:Int),(4094571909:Int),(275423344:Int),(430227734:Int),(506948616:Int),(659060556:Int),(883997877:Int),(958139571:Int),(1322822218:Int),(1537002063:Int),(1747873779:Int),(1955562222:Int),(2024104815:Int),(2227730452:Int),(2361852424:Int),(2428436474:Int),(2756734187:Int),(3204031479:Int),(3329325298:Int)]
def Art:Nat:=IntKind.bits IntKind.u64
def Arl (a:AA):AA:=(a:AA)
def GZ:BO:=⟨[]⟩
def La:Int:=(0:Int)
def Auj:Bf:=⟨IK,0,[],0,IK,0⟩
def O4 (a:Nat) (b c:Int):Int:=((BitVec.toNat ((BitVec.ofInt a b) &&& (BitVec.ofInt a c)):Nat):Int)
def Nh (c:dR) (d:C9) (e:EN) (b:Cm) (f:EN):Option (EN×C9×Cm):=(c (Asw d) 30).bind fun a=>cond a.1 (some (e,Asw a.2,b)) (some (f,Asw a.2,b))
def AuB (b a c:Int):Bool:=(Jf b a) && (GN a c)
def ML (a:Int):Int:=FN ((a.tmod 56)*3)
def Y1 (c:Arm) (d:Aq) (e:Bool) (b:Option (Aq×Bool)) (f:AA) (g:Option (Aq×Bool)):Option (Aq×Bool):=(c d).bind fun a=>cond e b (cond (!a.2) b (cond (!(EZ a.1 f)) b g))
def OAq:AA:=Arl ⟨#[48,48,48,49,48,50,48,51,48,52,48,53,48,54,48,55,48,56,48,57,49,48,49,49,49,50,49,51,49,52,49,53,49,54,49,55,49,56,49,57,50,48,50,49,50,50,50,51,50,52,50,53,50,54,50,55,50,56,50,57,51,48,51,49,51,50,51,51,51,52,51,53,51,54,51,55,51,56,51,57,52,48,52,49,52,50,52,51,52,52,52,53,52,54,52,55,52,56,52,57,53,48,53,49,53,50,53,51,53,52,53,53,53,54,53,55,53,56,53,57,54,48,54,49,54,50,54,51,54,52,54,53,54,54,54,55,54,56,54,57,55,48,55,49,55,50,55,51,55,52,55,53,55,54,55,55,55,56,55,57,56,48,56,49,56,50,56,51,56,52,56,53,56,54,56,55,56,56,56,57,57,48,57,49,57,50,57,51,57,52,57,53,57,54,57,55,57,56,57,57]⟩
def Ub (a:Int):Nat:=IZ (FN a)
def Eb (a:Aj):List EC:=a.BI
def He (a:Aj):Nat:=(Eb a).length
def VQ (a:Nat) (b:Int):Int:=((BitVec.toNat ((BitVec.ofInt a b) &&& (BitVec.ofInt a 1)):Nat):Int)
def XJ (a b:Int):Bool:=(decide (a<=a)) && (decide (0<b))
def Ie (a:List Int):Bool:=Nat.beq 25 a.length
def MN (a b:Nat):Int:=2 ^ (Min.min a b)
def As9 (a:Aj):Bf:=a.AV
def II (a:Cm):Bf:=As9 a.Ad
def At3 (a:Bf):List Ah:=a.Ag
def Gt (a:Bf):Nat:=(At3 a).length
def O5:Nat:=IntKind.bits IntKind.u8
def Jc (a:Int) (b:List Int):Bool:=AtI (FN a) (NZ b)
def Ib (a:BO×Bool):Option (BO×Bool):=some a
def Au5 (a:OJ) (b:BO) (c d:BO×Bool):Option (BO×Bool):=O3 (a b) (Ib c) (Ib d)
def AuO (a:OJ) (b:BO) (c d:BO×Bool):Option (BO×Bool):=O3 (a b) (Ib c) (Ib d)
def D7 (a b:Int):Int:=FN (a+b)
def Nj (a b:Int):Int:=D7 (FN a) (FN b)
def ArA (a:List AA) (b:Int) (c:AA):AA:=a.getD (IZ b) (Arl c)
def Lh (b:Option AA):Option AA:=b.bind fun a=>some a
def O6:AA:=⟨#[98,111,111,107,43]⟩
def ArB (a:BO) (b:Int):AA:=(Atk a b).fText
def QB (a:AA):Bool:=decide (a.size<=9223372036854775807)
def Q7 (a:Int):List Int:=List.replicate (IZ a) La
def SH (a:List BQ):Bool:=Ic ((a.length+1)*40)
def Yf (a:List BQ) (b:Int):List BQ:=(a.drop 0).take ((IZ b) - 0)
def PAq (a:Int) (b:List BQ) (c:BQ):Option BO:=cond (Jf a (b.length:Int)) (cond (Ic ((Yf b a).length*40)) (cond (SH (Yf b a)) (cond (Jf a (b.length:Int)) (cond (Ic ((((Yf b a)++[c]).length+((b.drop (IZ a)).take (b.length - (IZ a))).length)*40)) (some ⟨((Yf b a)++[c])++((b.drop (IZ a)).take (b.length - (IZ a)))⟩) none) none) none) none) none
def AuK (a:List AA):Int:=(a.length:Int)
def JZ (a:Bool) (b c:Option Bool):Option Bool:=cond a b c
def y7 (f:Ah) (a:Int) (b c:Bool) (d e:Option Bool):Option Bool:=JZ (f.Aa == 1) (JZ (a == 1) (some b) (JZ c d e)) (JZ (a == 2) (some b) (JZ c d e))
def Lj (a:BO):Nat:=a.Ai.length
def AtN (a:Ah):AA:=a.fValue
def qN (a:Ah):Option Bool:=some (decide ((Aq5 (AtN a))<=100))
def ArU (a b:Int):Int:=FN (a - b)
def Pn:Int:=ArU (168:Int) La
def As4 (a:Ah):Bool:=a.Fb
def ArW (a:Ah):Bool:=a.GI
def XK (a:Ah) (b c:Bool):Ah:=⟨a.fId,a.Aa,b,c,ArW a,As4 a,AtN a,a.fNext⟩
def Au1 (b c d:Option Bool):Option Bool:=b.bind fun a=>JZ a c d
def Jl (a:AA) (b c:Int):AA:=a.extract (IZ b) (Ub c)
def KT (a:List EC) (b:Int) (c:EC):EC:=a.getD (IZ b) (c:EC)
def AsE (a:List Int):Bool:=Nat.beq 8 a.length
def Au6 (a:Int):Int:=FN (a.tdiv 2)
def AvD (a:Int) (b:List Int):Bool:=AtI a (NZ b)
def LG (a:BO) (b:Int):Int:=(Atk a b).Jp
def W9 (a:BO) (b:Int) (c:ET):BQ:=⟨(Atk a b).fName,(ArB a b)++c.fText,LG a b⟩
def PAe:Cc:=(⟨0,0⟩:Cc)
def QAe (a:Nat) (b:Int):Int:=((BitVec.toNat ((BitVec.ofInt a b) &&& (BitVec.ofInt a 255)):Nat):Int)
def Q8 (a:Int):Int:=MN (IZ a) Auc
def OM (a b:Int):Int:=Int.fdiv a b
def y8 (a:C9):Int:=FN ((FN (a.fH*6364136223846793005))+1442695040888963407)
def QAq (a:C9):Int:=QAe Auc (FN (Arj Auc (OM (y8 a) (Q8 (33:Int))) (OM (y8 a) (Q8 (45:Int)))))
def FH (a:Bool) (b:Option AA):Option AA:=cond a b none
def RAe (a:Int):Bool:=((AuS a) && (decide (a<=a))) && (decide (a<=9223372036854775807))
def Auf (a:AA) (b:Int):Int:=FN (bt a b)
def dY (a:FY×AA) (b:Int):Int:=Nj (bt a.2 (ML b)) (256*((Auf a.2 (NM (ML b))).tmod 16))
def AvJ (a:Nat):Bool:=Ic (a*16)
def AuZ (a:List AA):Bool:=AvJ (a.length+1)
def Y2 (a:Int):Int:=(FN a).tmod 3329
def dZ (a b:Int):Int:=Y2 (a*b)
def Jd (a:List Int) (b:Int):Int:=Arc a (FN b)
def y9 (a:List Int) (b c d:Int):List Int:=a.set (Ub (b+c)) (Y2 ((ArU (Arc a b) (dZ d (Jd a (b+c))))+3329))
def RAq (b c a:Int×KD) (d:AA×KD) (e:Int×KD):Ah:=⟨b.1,c.1,(FN (VQ Auc a.1)) != 0,(FN ((BitVec.toNat ((BitVec.ofInt Auc a.1) &&& (BitVec.ofInt Auc 2)):Nat):Int)) != 0,(FN ((BitVec.toNat ((BitVec.ofInt Auc a.1) &&& (BitVec.ofInt Auc 4)):Nat):Int)) != 0,(FN ((BitVec.toNat ((BitVec.ofInt Auc a.1) &&& (BitVec.ofInt Auc 8)):Nat):Int)) != 0,d.1,e.1⟩
def Oo (b:Option Bool):Option Bool:=b.bind fun a=>some a
def Aue (a:Int):Bool:=decide (a>=0)
def Nc (a:Bool) (b:Option (AA×Bool)):Option (AA×Bool):=cond a b none
def Po (b:Int) (c:Bool) (a d:Option (BO×Bool)) (e:Bool) (f:Option (BO×Bool)):Option (BO×Bool):=cond (b == 3) (cond c a d) (cond e f a)
def dh (a:AA) (b:Int):Int:=Nj (bt a (ML b)) (256*((Auf a (NM (ML b))).tmod 16))
def AuW:AA:=⟨#[98,111,111,107]⟩
def Qx (a:Aj):Int:=(As9 a).BR
def Am (a:Aj):Int:=NM (Qx a)
def Fa (a:Aq):Ah:=a.BK
def Aud (a:Bf):Int:=a.DR
def OO (a:Bf):Int:=NM a.fCount
def XL (a:Bf) (b:List Ah) (c:Aq) (d:AA) (e:Bf):Bf:=⟨a.Bv,Aud a,b,(Fa c).fId,d,OO e⟩
def Qo (a:List Int):Bool:=Ic ((a.length+1)*1)
def Jk (a:BO) (b:Int):Int:=Aq5 (ArB a b)
def XA (a:BO) (b:Int):BQ:=⟨(Atk a b).fName,ArB a b,Jk a b⟩
def O7 (a:AA) (b:Int):AA:=a.extract (IZ b) a.size
def Atp (a:CJ):Int:=a.Dz
def ArK (a:Cm):List AA:=a.GR
def zA (a:CJ×C9) (b:Cm) (c:Int×C9):CJ:=⟨a.1.Au,Atp a.1,a.1.BK,a.1.Aa,ArA (ArK b) c.1 IK,a.1.CY,a.1.CZ⟩
def zB (a:Int):Int:=((BitVec.toNat ((BitVec.ofInt Auc a) ^^^ (BitVec.ofInt Auc 1)):Nat):Int)
def O8:AA:=Arl ⟨#[116]⟩
def SAe (a:CJ):CJ:=⟨a.Au,Atp a,a.BK,a.Aa,⟨#[108,111,110,103]⟩,a.CY,a.CZ⟩
def ArE:Int:=(1:Int)
def Ll (a:List Int):Option AA:=some (ofBytes a)
def Aq2 (a:Int):Int:=NM (FN (2*a))
def qO (b:Int) (c:AA) (d a:Int):Int:=D7 b (FN (((Auf c (D7 d a)).tmod 128)*(MN (Ub (7*a)) Auc)))
def LZ (a:AA×Bool):Option (AA×Bool):=some a
def Ar9 (a:ET):Bool:=EZ a.Ij a.fName
def Aq6 (a b:List Int):Bool:=Nat.beq a.length b.length
def pI (a b:BQ):Bool:=Op.bytesLess (AuT a.fName) (AuT b.fName)
def XD (a:ET):BQ:=⟨a.fName,(Arl IK)++a.fText,0⟩
def JK (a:Int):Bool:=decide (a<0)
def Y3:AA:=⟨#[112,111,108,105,99,121]⟩
def QC (a:List Int):Bool:=Ic ((a.length+1)*8)
def Rn (a:Int):Bool:=decide (a > 0)
def Atq (a:Int):Int:=wu64 a
def TAe (a:Int):Int:=Atq ((BitVec.toNat ((BitVec.ofInt Art (Atq a)) &&& (BitVec.ofInt Art 31)):Nat):Int)
def UAe (a:Int):Int:=Atq ((BitVec.toNat ((BitVec.ofInt Art (Atq a)) &&& (BitVec.ofInt Art 63)):Nat):Int)
def Q9 (a:List Int):Bool:=Nat.beq 64 a.length
def OQ (a:Int):Bool:=(a.tmod 2) == 1
def Qr (a:FY):Int:=FN (168 - a.D8)
def Y4 (a:Nat) (b c:Int):Int:=((BitVec.toNat ((BitVec.ofInt a b) ||| (BitVec.ofInt a c)):Nat):Int)
def QD (a:AA) (b:Int):AA:=a.extract 0 (IZ b)
def AtO (a:Aj):List BQ:=a.Bd.Ai
def SAq:AA:=Arl ⟨#[48,49,50,51,52,53,54,55,56,57,97,98,99,100,101,102,103,104,105,106,107,108,109,110,111,112,113,114,115,116,117,118,119,120,121,122]⟩
def zC (a:FY×AA) (b:Int):Int:=Nj ((Auf a.2 (NM (ML b))).tdiv 16) (16*(Auf a.2 (FN ((ML b)+2))))
def Y5 (a:AA):AA:=a.extract 0 (Ub ((Aq5 a) - 16))
def XM (a:Bf) (b:List Ah) (c:AA) (d:Bf):Bf:=⟨a.Bv,Aud a,b,a.BR,c,OO d⟩
def zD (a:AA) (b:Int):Int:=Nj ((Auf a (NM (ML b))).tdiv 16) (16*(Auf a (FN ((ML b)+2))))
def AsR (a:AA):Bool:=(Aq5 a) == 32
def zF (a:Ah):Option Bool:=JZ (a.Aa == 3) (qN a) (some (AsR (AtN a)))
def Gv (a:Int) (b:Nat):Bool:=ArF a (b:Int)
def XE (a:ET):BQ:=⟨a.fName,IK,Aq5 (Arl IK)⟩
def VR (a b:Int):Int:=OM a (MN (IZ b) Arp)
def Md (a:Aj):List Cc:=a.BJ
def Tn (a:Aj):Nat:=(Md a).length
def Jb (a:Bf):AA:=a.Dp
def VAe (a:Int):Int:=FN ((BitVec.toNat ((BitVec.ofInt Auc (FN a)) ^^^ (BitVec.ofInt Auc 113)):Nat):Int)
def zG (b:AA) (a:Int):Int:=FN (OM (bt b (Au6 a)) (MN (Ub (4*(a.tmod 2))) O5))
def Aup (a:Int):Bool:=a == 0
def QA (a:Aj):Bool:=Aup (He a:Int)
def XO (a:List Cc) (b:Int):List Cc:=(a.drop 0).take ((IZ b) - 0)
def Y6:List Int:=List.replicate 25 La
def RD (a:Bool) (b c:Bf×Bool):Option (Bf×Bool):=cond (!a) (some b) (some c)
def Aux (b:Option Cm):Option Cm:=b.bind fun a=>some a
def OT (a:Nat) (b c:Int):Int:=w32 (Arj a b c)
def dn (a b:Int):Int:=OT Arp (w32 a) (w32 b)
def Ary (a:List Cc) (b:Int):Cc:=a.getD (IZ b) PAe
def VJ (a:List Aq) (b:Int) (c:AA) (d:Ah):Aq:=a.getD (IZ b) (⟨0,c,0,d⟩:Aq)
def Asn (a:Aj):Int:=a.CU
def Au4 (a:ET):Bool:=a.Aa == 1
def AsP (a:ET):Bool:=a.Aa == 2
def Ar1 (a:ET):Bool:=a.Aa == 4
def Ari (a:Int×Int×Bool):Int:=(FN (a.2.1+4))+a.1
def KX (a b:Int):Int:=a+(FN (5*b))
def OI (a:Aj):Int:=Aud (As9 a)
def dw:AA:=⟨#[102,117,108,108]⟩
def RF (a:Int):Bool:=decide (a<256)
def TAq (a:List Int):List Int:=a.set (Ub ((NZ a) - 1)) (w8 ((BitVec.toNat ((BitVec.ofInt O5 (Jd a ((NZ a) - 1))) ^^^ (BitVec.ofInt O5 128)):Nat):Int))
def AvG (a:Int):Int:=a.tmod 5
def AsT (a:Cm):Int:=(II a).fCount
def XP (a:List (List Int)):Bool:=Ic ((a.length+1)*24)
def LJ (a:AA):List Int:=bytesOf a
def qP (a:List Int) (b:AA):Bool:=Ic ((a.length+(LJ b).length)*1)
def XC (a:ET):Bool:=AsU (Arl IK) a.fText
def Au8:Option Int:=some (-ArE)
def qQ:AA:=Arl ⟨#[111,117,116]⟩
def dM (a:List Cc) (b:Nat) (c:Int):List Cc:=(a.drop b).take (a.length - (IZ c))
def UAq:List Int:=[1779033703,3144134277,1013904242,2773480762,1359893119,2600822924,528734635,1541459225]
def XQ:List Int:=Q7 (256:Int)
def AuL:Int:=(4:Int)
def Nq (a:Int):Int:=FN (a - 1)
def Tf (a:Ah):Bool:=a.CY
def zH (a:AA):AA:=a.extract (Ub ((Aq5 a) - 32)) a.size
def WAe (a:BO) (b:Int):BQ:=(⟨(Atk a b).fName,QD (ArB a b) (LG a b),LG a b⟩:BQ)
def zI (a:AA):Bool:=(GN La ArE) && (decide (1<=(Aq5 a)))
def Nr (a:Bf) (b:AA×Bool):Bool:=AsU (Jb a) b.1
def zJ:AA:=⟨#[119,114,111,110,103]⟩
def Ig (a:Bool) (b:Option Aj):Option Aj:=cond a b none
def XB (c:ET) (a:BO) (b:Int):BQ:=⟨c.Ij,ArB a b,LG a b⟩
def LD (a:Int) (b:BO):Bool:=AtW a (Lj b)
def Ard (a:Bool) (b:Option (List Int)):Option (List Int):=cond a b none
def eF:AA:=Arl ⟨#[109]⟩
def zK (a:Int):Bool:=(GN La (2:Int)) && (decide (2<a))
def Oq (a:Int) (b:List AA):Bool:=AtW a b.length
def VAq (i:QZ) (b:AA) (f:Asp) (g:AA) (h:As8):Option AA:=(i (FN (64 - (Aq5 b)))).bind fun a=>FH (AsU b a) ((f (b++a) 92).bind fun c=>(f (b++a) 54).bind fun d=>FH (AsU d g) ((h (d++g)).bind fun e=>FH (AsU c e) (Lh (h (c++e)))))
def zL (a:List Int):Bool:=(GN La AuL) && (decide (4<(NZ a)))
def zM (a:List AA):Option AA:=FH (XJ La (AuK a)) (some (ArA a La IK))
def Hr (a b c:AA):Bool:=AsU (a++b) c
def KU (a:Bf):Int:=(Gt a:Int)
def WAq (a:AA) (b:Int):List ET:=[(⟨4,O6,IK,IK⟩:ET)]++[(⟨1,O6,QD a b,IK⟩:ET),(⟨2,O6,IK,IK⟩:ET),(⟨3,O6,IK,AuW⟩:ET)]
def UA (a:Int):Bool:=decide (a<2)
def eG:AA:=Arl ⟨#[32]⟩
def XAe (a:Int):Int:=w32 ((w32 ((2147483648:Int).tdiv a))*2)
def Arh (a:Ah):Bool:=a.CZ
def Wx:Option AA:=some IK
def Lm (a:Int) (b:AA):Int:=ArU a (Aq5 b)
def AvC (a:Cm):Int:=(II a).BR
def Auz (a:Int):Bool:=a == a
def XF (a:ET):BQ:=⟨a.Ij,IK,0⟩
def zN (a:AA):Bool:=Jf (FN ((Aq5 a) - 16)) (Aq5 a)
def AuX (a:Int):Nat:=IZ (NM a)
def FI (a:List Int):Option (List Int):=some a
def UC (a:List Int):Bool:=XJ La (NZ a)
def eH:Hu:=⟨0,[],[]⟩
def eP (a:Aq):Bool:=EZ (AtN (Fa a)) IK
def YAe:List AA:=[⟨#[97]⟩,⟨#[98]⟩,⟨#[99]⟩]
def eU (a:Int):Int:=FN (a.tdiv 16)
def Nb (a:Int) (b:Bf):Bool:=AtW a (Gt b)
def Ns (a:Int):Int:=a.tdiv 8
def qR:AA:=Arl ⟨#[108]⟩
def Tt (a:Cm):AA:=(II a).Bv
def Y7 (a:Int):Int:=FN (a.tdiv 4)
def eX (a b:Int):Int:=AvG (Nj (2*a) (3*b))
def XAq (a:AA):Bool:=((GN La (768:Int)) && (GN (768:Int) (1568:Int))) && (decide (1568<=(Aq5 a)))
def zO (a:Int):Bool:=(GN La ArE) && (decide (1<a))
def AtV (a:Cm):AA:=a.Ad.BN
def Tc (a:Aj):Int:=(As9 a).fCount
def At5 (a b:Int):Bool:=decide (a>=b)
def Y8 (a:Int):Bool:=decide (a<3329)
def YAq (a b:Int):Int:=FN ((ArU (ArU (D7 (a.tmod 2) (b.tmod 2)) ((Y7 a).tmod 2)) ((FN (Ns a)).tmod 2))+3329)
def Ut (a:Cm):Int:=Aud (II a)
def AsQ (a:Cm):Int:=Asn a.Ad
abbrev mk {R:Type} (c:R) {x:R} (_h:x=c:=by (first|delta AtI Atk AsU IK Arj Ic EZ AsJ Arp NM Jf Auc NZ Asw Aq5 Arc O3 Ja AtW NAq Art Arl FN GZ La Auj O4 Nh ArF AuB ML Y1 OAq Ub He VQ XJ Ie MN II Gt O5 Jc At3 Au5 AuO Nj ArA Lh O6 ArB QB Q7 GN PAq AuK y7 Lj qN Pn XK Au1 Jl KT AsE Au6 AvD W9 PAe QAq FH y8 RAe dY Auf AuZ y9 Eb RAq Oo Aue IZ Nc Po dh Jd AuW Am XL Qo XA O7 zA OO zB O8 SAe ArE Ll Aq2 qO ArQ LZ Ar9 Aq6 pI XD ArU JK Y3 AuS QC LG Rn TAe UAe Q9 OQ Fa Qr Y4 QD SH AtO SAq zC Y5 XM zD zF Gv XE VR Tn Jb VAe zG QA XO Y6 RD Atq Aux dn Ary VJ Asn JZ Au4 AsP Ar1 Ari KX OI dw As9 RF TAq AvG AsT Aud Aup Yf XP qP XC Au8 qQ dM LJ Jk UAq XQ AuL Nq QAe AtN Ib Tf zH Q8 WAe zI Nr zJ Ig AuT XB LD Ard eF Atp zK Oq VAq zL ArK zM As4 Hr KU WAq UA eG XAe Arh Md OT Wx Lm AvJ AvC OM Auz D7 ArW dZ XF zN AuX FI UC eH eP YAe Qx eU Nb Ns qR Tt Y7 eX XAq zO AtV Tc At5 AsR Y8 YAq Ut AsQ Y2|skip);exact rfl):R:=x
def XA8:pJ:=fun a=>mk (some (decide ((NZ Jq) > 1048576)))
def ZAe:pJ:=XA8
def RBN:Arb:=BF u1 ZAe sG GK [] Tryz.func4 XA8
inductive zQ where
 |c0 (a b:Int)
def SBN:zQ->Asu
 |.c0 a b=>(tdo Tryz.f18 464,[(0,[.one (.Ji)]),vi 3 a,vi 4 b],[])
def ZAq (k:AsB zQ C9):OAp:=fun a=>mk (k (.c0 (FN (27401+(NZ Jq))) 0))
def AFi (k:AsB zQ C9):AsB zQ C9
 |.c0 b a=>mk (cond (ArF a (NZ Jq)) (cond (a<4000) (cond (AvD a Jq) (cond (Nat.blt (IZ a) Jq.length) (k (.c0 (FN ((BitVec.toNat ((BitVec.ofInt Auc (FN ((Nj (b*131) (Arc Jq a))+7))) &&& (BitVec.ofInt Auc 1073741823)):Nat):Int)) (NM a))) none) none) (some ⟨(),0,b⟩)) (some ⟨(),0,b⟩))
def nJ:ArS zQ C9
 |0,_=>none
 |m+1,s=>AFi (nJ m) s
def BAf:OAp:=ZAq (nJ AX)
def TBN:Arb:=fy u1 BAf sG cv2 [] Tryz.func18 SBN AFi ZAq nJ
def ANr:yh:=fun a=>mk (cond (ArF a.fI (NZ Jq)) (cond (AtI a.fI (NZ Jq)) (cond (Nat.blt (IZ a.fI) Jq.length) (some (FN (QAe Auc (Nj (QAq a) (Arc Jq a.fI))),⟨(),NM a.fI,y8 a⟩)) none) none) (some (FN (QAq a),⟨(),a.fI,y8 a⟩)))
def nM:yh:=ANr
def YA8:Arb:=BF u1 nM cv3 cv4 [] Tryz.func119 ANr [0]
def BAr (b:yh):Ti:=fun c a=>mk (cond (a<=0) (some (0,Asw c)) (cond (a<=256) ((b (Asw c)).bind fun d=>cond (!(Aup a)) (some (d.1.tmod a,Asw d.2)) none) ((b (Asw c)).bind fun e=>(b (Asw e.2)).bind fun f=>(b (Asw f.2)).bind fun g=>(b (Asw g.2)).bind fun h=>cond (!(Aup a)) (some ((D7 (Nj ((FN (e.1*16777216))+(FN (f.1*65536))) (g.1*256)) h.1).tmod a,Asw h.2)) none)))
def Au3:Ti:=BAr nM
def eY:Arb:=BF u2 Au3 cv5 cv4 [YA8] Tryz.func62 BAr [0]
inductive zS where
 |c0 (a b d:Int) (e:(List Int))
def UBN:zS->Asu
 |.c0 a b d e=>(tdo Tryz.f108 464,[vi 0 a,(1,[.one (.int .u8 b)]),vo 5 368,vi 6 d],[(368,.sl 5 e)])
def CAr (k:AsB zS AA):Yh:=fun a b=>mk (cond ((RAe a) && (Ic ((IZ a)*1))) (k (.c0 a b 0 (Q7 a))) none)
def CAf (k:AsB zS AA):AsB zS AA
 |.c0 c d a b=>mk (cond (ArF a c) (cond (AvD a b) (k (.c0 c d (NM a) (b.set (IZ a) d))) none) (Ll b))
def nN:ArS zS AA
 |0,_=>none
 |m+1,s=>CAf (nN m) s
def bT:Yh:=CAr (nN AX)
def ZA8:Arb:=fy u2 bT cv6 CS [] Tryz.func108 UBN CAf CAr nN
def AWy:Au9:=mk (FI UAq)
def BA9:Au9:=AWy
def VBN:Arb:=BF u0 BA9 Xb cv9 [] Tryz.func196 AWy
inductive zT where
 |c0 (a:(List Int)) (b:Int) (d:(List Int))
def WBN:zT->Asu
 |.c0 a b d=>(tdo Tryz.f195 464,[vr 0 115 a,vo 3 240,vi 4 b],[(240,.sl 5 d)])
def CA9 (k:AsB zT AA):Ate:=fun a=>k (.c0 a 0 [])
def DAf (k:AsB zT AA):AsB zT AA
 |.c0 b a c=>mk (cond (ArF a (NZ b)) (cond (AvD a b) (cond (Ic ((c.length+4)*1)) (k (.c0 b (NM a) (c++[w8 (w32 ((Arc b a).tdiv 16777216)),w8 ((w32 ((Arc b a).tdiv 65536)).tmod 256),w8 ((w32 ((Arc b a).tdiv 256)).tmod 256),w8 ((Arc b a).tmod 256)]))) none) none) (Ll c))
def nR:ArS zT AA
 |0,_=>none
 |m+1,s=>DAf (nR m) s
def bZ:Ate:=CA9 (nR AX)
def DAr:Arb:=fy u1 bZ Abv CS [] Tryz.func195 WBN DAf CA9 nR
def DA9 (c:Au9) (d:Ate):PAp:=mk (c.bind fun a=>(d a).bind fun b=>some ⟨b,IK,0⟩)
def EAr:PAp:=DA9 BA9 bZ
def XBN:Arb:=BF u0 EAr Xb ACW [VBN,DAr] Tryz.func154 DA9
def EA9:As1:=fun a b c=>mk (JZ (At5 a b) (some (GN a c)) (some false))
def AuU:As1:=EA9
def Jm:Arb:=BF u3 AuU AR4 GK [] Tryz.func49 EA9
def FAr (b:As1):pK:=fun a=>mk (JZ (AsR a.FZ) (JZ ((Aq5 a.MW)<64) (Au1 (b a.fCount 0 1000000000) (some ((a.fCount.tmod 64) == (Aq5 a.MW))) (some false)) (some false)) (some false))
def Wn:pK:=FAr AuU
def FA9:Arb:=BF u1 Wn ACW GK [Jm] Tryz.func191 FAr
def GAr:RAd:=fun b a=>mk (cond (AtI a (Aq5 b)) (cond (AtI (NM a) (Aq5 b)) (cond (AtI (FN (a+2)) (Aq5 b)) (cond (AtI (FN (a+3)) (Aq5 b)) (some (w32 ((w32 ((w32 ((w32 ((w32 (bt b a))*16777216))+(w32 ((w32 (bt b (NM a)))*65536))))+(w32 ((w32 (bt b (FN (a+2))))*256))))+(w32 (bt b (FN (a+3))))))) none) none) none) none)
def yB:RAd:=GAr
def YBN:Arb:=BF u2 yB QM SV [] Tryz.func240 GAr
inductive zU where
 |c0 (a:AA) (b:Int) (d:(List Int))
def ZBN:zU->Asu
 |.c0 a b d=>(tdo Tryz.f192 464,[vs 0 a,vo 3 240,vi 4 b],[(240,.sl 115 d)])
def GA9 (b:RAd) (k:AsB zU (List Int)):ArT:=fun a=>k (.c0 a 0 [])
def EAf (a:RAd) (k:AsB zU (List Int)):AsB zU (List Int)
 |.c0 c b d=>mk (cond (GN (FN (b+4)) (Aq5 c)) ((a c b).bind fun e=>cond (Ic ((d.length+1)*4)) (k (.c0 c (FN (b+4)) (d++[e]))) none) (FI d))
def nS:ArS zU (List Int)
 |0,_=>none
 |m+1,s=>EAf yB (nS m) s
def Asg:ArT:=GA9 yB (nS AX)
def HAr:Arb:=fy u1 Asg CS cv9 [YBN] Tryz.func192 ZBN EAf GA9 nS
def HA9:Au9:=mk (FI [1116352408,1899447441,3049323471,3921009573,961987163,1508970993,2453635748,2870763221,3624381080,310598401,607225278,1426881987,1925078388,2162078206,2614888103,3248222580,3835390401,4022224774,264347078,604807628,770255983,1249150122,1555081692,1996064986,2554220882,2821834349,2952996808,3210313671,3336571891,3584528711,113926993,338241895,666307205,773529912,1294757372,1396182291,1695183700,1986661051,2177026350,2456956037,2730485921,2820302411,3259730800,3345764771,3516065817,3600352804,4094571909,275423344,430227734,506948616,659060556,883997877,958139571,1322822218,1537002063,1747873779,1955562222,2024104815,2227730452,2361852424,2428436474,2756734187,3204031479,3329325298])
def nU:Au9:=HA9
def IA9:Arb:=BF u0 nU Xb cv9 [] Tryz.func193 HA9
def IAr:QAp:=fun b a c=>mk (cond (!(Aup a)) (cond (!(Aup a)) (some (w32 ((w32 (b.tdiv a))+(w32 ((b.tmod a)*c))))) none) none)
def FAf:QAp:=IAr
def Aiv:Arb:=BF u3 FAf Abw SV [] Tryz.func274 IAr
def nT (e:QAp):SAd:=fun b c f a i=>mk (cond (!(Aup c)) ((e b c (XAe c)).bind fun d=>cond (!(Aup f)) ((e b f (XAe f)).bind fun g=>cond (!(Aup a)) (cond (!i) (cond (!(Aup a)) ((e b a (XAe a)).bind fun h=>some (OT Arp (OT Arp d g) h)) none) (some (dn (Arj Arp d g) (b.tdiv a)))) none) none) none)
def TQ:SAd:=nT FAf
def BBO:Arb:=BF u5 TQ Abx SV [Aiv] Tryz.func241 nT
inductive zV where
 |c0 (a b:(List Int)) (g:Int) (d:(List Int))
 |c1 (a b:(List Int)) (f:Int) (d e:(List Int))
 |c2 (a b:(List Int)) (f h:Int) (i j:Int) (d e:(List Int))
 |c3 (a:(List Int)) (l:Int) (e n:(List Int))
def CBO:zV->Asu
 |.c0 a b g d=>(tdo Tryz.f194 464,[vr 0 115 a,vr 1 115 b,vo 7 496,vi 8 g],[(496,.sl 115 d)])
 |.c1 a b f d e=>(tdo Tryz.f194 2000,[vr 0 115 a,vr 1 115 b,vo 7 496,vo 9 624,vi 10 f],[(496,.sl 115 d),(624,.sl 115 e)])
 |.c2 a b f h i j d e=>(tdo Tryz.f194 8202192,[vr 0 115 a,vr 1 115 b,vo 7 496,vo 9 624,vi 10 f,(13,[.one (.int .u32 h)]),(15,[.one (.int .u32 i)]),vi 16 j],[(496,.sl 115 d),(624,.sl 115 e)])
 |.c3 a l e n=>(tdo Tryz.f194 8144,[vr 0 115 a,vo 9 624,vo 17 1136,vi 18 l],[(624,.sl 115 e),(1136,.sl 115 n)])
def JAr (b:ArT) (f:SAd) (k:AsB zV (List Int)):pO:=fun d e c=>(b c).bind fun a=>k (.c0 d e 16 a)
def bf (a:ArT) (b:SAd) (k:AsB zV (List Int)):AsB zV (List Int)
 |.c0 e h d c=>mk (cond (d<64) (cond (Jc (d - 2) c) ((b (Jd c (d - 2)) 131072 524288 1024 true).bind fun f=>cond (Jc (d - 7) c) (cond (Jc (d - 15) c) ((b (Jd c (d - 15)) 128 262144 8 true).bind fun g=>cond (Jc (d - 16) c) (cond (Ic ((c.length+1)*4)) (k (.c0 e h (NM d) (c++[w32 ((w32 ((w32 (f+(Jd c (d - 7))))+g))+(Jd c (d - 16)))]))) none) none) none) none) none) (cond (Ic ((0+e.length)*4)) (k (.c1 e h 0 c e)) none))
 |.c1 i e d f c=>mk (cond (d<64) (cond (zL c) (cond ((GN La (5:Int)) && (decide (5<(NZ c)))) (cond ((GN La (6:Int)) && (decide (6<(NZ c)))) (cond ((GN La (7:Int)) && (decide (7<(NZ c)))) ((b (Arc c AuL) 64 2048 33554432 false).bind fun g=>cond (AvD d e) (cond (AvD d f) (cond (UC c) (cond (zO (NZ c)) (cond (UC c) (cond (zK (NZ c)) (cond (zO (NZ c)) (cond (zK (NZ c)) (cond (UC c) ((b (Arc c La) 4 8192 4194304 false).bind fun h=>k (.c2 i e d (w32 ((w32 ((w32 ((w32 ((Arc c (7:Int))+g))+(dn (O4 Arp (Arc c AuL) (Arc c (5:Int))) (O4 Arp (w32 (4294967295 - (Arc c AuL))) (Arc c (6:Int))))))+(Arc e d)))+(Arc f d))) (w32 (h+(dn (Arj Arp (w32 (O4 Arp (Arc c La) (Arc c ArE))) (w32 (O4 Arp (Arc c La) (Arc c (2:Int))))) (O4 Arp (Arc c ArE) (Arc c (2:Int)))))) 7 f c)) none) none) none) none) none) none) none) none) none) none) none) none) none) (k (.c3 i 0 c [])))
 |.c2 f g h e i d j c=>mk (cond (Rn d) (cond (Jc (d - 1) c) (cond (AvD d c) (k (.c2 f g h e i (Nq d) j (c.set (IZ d) (Jd c (d - 1))))) none) none) (cond (zL c) (cond (zL c) (cond (UC (c.set (IZ AuL) (w32 ((Arc c AuL)+e)))) (k (.c1 f g (NM h) j ((c.set (IZ AuL) (w32 ((Arc c AuL)+e))).set (IZ La) (w32 (e+i))))) none) none) none))
 |.c3 d c e f=>mk (cond (c<8) (cond (AvD c d) (cond (AvD c e) (cond (Ic ((f.length+1)*4)) (k (.c3 d (NM c) e (f++[w32 ((Arc d c)+(Arc e c))]))) none) none) none) (FI f))
def Ar0:ArS zV (List Int)
 |0,_=>none
 |m+1,s=>bf Asg TQ (Ar0 m) s
def bg:pO:=JAr Asg TQ (Ar0 AX)
def JA9:Arb:=fy u3 bg Aby cv9 [HAr,BBO] Tryz.func194 CBO bf JAr Ar0
inductive zW where
 |c0 (a b:AA) (d:Int) (e f:Hz) (g h:(List Int))
def DBO:zW->Asu
 |.c0 d e f a b g h=>(tdo Tryz.f153 4064,[vs 1 d,vp 2 128,vp 4 256,vo 5 368,vo 6 432,vs 7 e,vi 8 f],[(128,.var [.str a.FZ,.str a.MW,li a.fCount]),(256,.var [.str b.FZ,.str b.MW,li b.fCount]),(368,.sl 115 g),(432,.sl 115 h)])
def KAr (f:pK) (g:ArT) (h:Au9) (i:pO) (j:Ate) (k:AsB zW Hz):RAp:=fun a b=>mk ((f a).bind fun c=>cond (!c) (some a) (cond ((D7 a.fCount (Aq5 b)) > 1000000000) (some a) ((g a.FZ).bind fun d=>h.bind fun e=>cond (AsU a.MW b) (k (.c0 b (a.MW++b) 0 a ⟨IK,IK,0⟩ d e)) none)))
def GAf (a:pK) (b:ArT) (c:Au9) (d:pO) (e:Ate) (k:AsB zW Hz):AsB zW Hz
 |.c0 l g f m o i j=>mk (cond (GN (FN (f+64)) (Aq5 g)) (cond (AuB f (FN (f+64)) (Aq5 g)) ((d i j (Jl g f (f+64))).bind fun h=>k (.c0 l g (FN (f+64)) m o h j)) none) ((e i).bind fun n=>cond (Jf f (Aq5 g)) (some ⟨n,O7 g f,D7 m.fCount (Aq5 l)⟩) none))
def nV:ArS zW Hz
 |0,_=>none
 |m+1,s=>GAf Wn Asg nU bg bZ (nV m) s
def HAf:RAp:=KAr Wn Asg nU bg bZ (nV AX)
def EBO:Arb:=fy u2 HAf Abz ACW [FA9,HAr,IA9,JA9,DAr] Tryz.func153 DBO GAf KAr nV
inductive zX where
 |c0 (b:Hz) (a:(List Int))
 |c1 (d e:Int) (b:Hz) (a:(List Int))
 |c2 (d e:Int) (f g:Int) (b:Hz) (a:(List Int))
 |c3 (h:Int) (a i j:(List Int))
def FBO:zX->Asu
 |.c0 a b=>(tdo Tryz.f152 992,[vp 1 64,vo 3 240],[(64,.var [.str a.FZ,.str a.MW,li a.fCount]),(240,.sl 5 b)])
 |.c1 d e a b=>(tdo Tryz.f152 8144,[vp 1 64,vo 3 240,vi 4 d,vi 5 e],[(64,.var [.str a.FZ,.str a.MW,li a.fCount]),(240,.sl 5 b)])
 |.c2 d e f g a b=>(tdo Tryz.f152 2085456,[vp 1 64,vo 3 240,vi 4 d,vi 5 e,vi 6 f,vi 7 g],[(64,.var [.str a.FZ,.str a.MW,li a.fCount]),(240,.sl 5 b)])
 |.c3 h b i j=>(tdo Tryz.f152 65488,[vo 3 240,vo 8 560,vo 9 624,vi 10 h],[(240,.sl 5 b),(560,.sl 115 i),(624,.sl 115 j)])
def LAr (c:pK) (d:ArT) (e:Au9) (f:pO) (g:Ate) (k:AsB zX AA):SAp:=fun a=>mk ((c a).bind fun b=>cond (!b) Wx (cond (QB a.MW) (cond (Qo (LJ a.MW)) (k (.c0 a ((LJ a.MW)++[(128:Int)]))) none) none))
def ArH (a:pK) (b:ArT) (c:Au9) (d:pO) (e:Ate) (k:AsB zX AA):AsB zX AA
 |.c0 g f=>mk (cond (((NZ f).tmod 64) != 56) (cond (Qo f) (k (.c0 g (f++[La]))) none) (k (.c1 (FN (8*g.fCount)) 7 g f)))
 |.c1 g f h i=>mk (cond (Aue f) (k (.c2 g f g 0 h i)) ((b h.FZ).bind fun j=>c.bind fun l=>k (.c3 0 i j l)))
 |.c2 i f j h l g=>mk (cond (ArF h f) (k (.c2 i f (FN (j.tdiv 256)) (NM h) l g)) (cond (Qo g) (k (.c1 i (Nq f) l (g++[w8 (j.tmod 256)]))) none))
 |.c3 f g i j=>mk (cond (ArF f (NZ g)) (cond (AuB f (FN (f+64)) (NZ g)) ((d i j (ofBytes ((g.drop (IZ f)).take ((Ub (f+64)) - (IZ f))))).bind fun h=>k (.c3 (FN (f+64)) g h j)) none) (Lh (e i)))
def ArZ:ArS zX AA
 |0,_=>none
 |m+1,s=>ArH Wn Asg nU bg bZ (ArZ m) s
def IAf:SAp:=LAr Wn Asg nU bg bZ (ArZ AX)
def GBO:Arb:=fy u1 IAf ACW CS [FA9,HAr,IA9,JA9,DAr] Tryz.func152 FBO ArH LAr ArZ
def MAr (c:PAp) (d:RAp) (f:SAp):As8:=fun e=>mk (c.bind fun a=>(d a e).bind fun b=>Lh (f b))
def As0:As8:=MAr EAr HAf IAf
def Atz:Arb:=BF u1 As0 CS CS [XBN,EBO,GBO] Tryz.func107 MAr
def NAr (c:As8) (d:Yh):P8:=mk ((c IK).bind fun a=>(d 32 0).bind fun b=>some ⟨a,0,[],0,b,0⟩)
def AtY:P8:=NAr As0 bT
def zY:Arb:=BF u0 AtY Xb ACX [Atz,ZA8] Tryz.func51 NAr
inductive zZ where
 |c0 (a:Int) (b:(List Int))
def HBO:zZ->Asu
 |.c0 a b=>(tdo Tryz.f121 224,[vi 0 a,vo 3 240],[(240,.sl 5 b)])
def KA9 (k:AsB zZ AA):QZ:=fun a=>k (.c0 a [])
def JAf (k:AsB zZ AA):AsB zZ AA
 |.c0 a b=>mk (cond (a > 127) (cond (Qo b) (k (.c0 (FN (a.tdiv 128)) (b++[w8 (FN ((a.tmod 128)+128))]))) none) (FH (Qo b) (Ll (b++[w8 a]))))
def nX:ArS zZ AA
 |0,_=>none
 |m+1,s=>JAf (nX m) s
def Qv:QZ:=KA9 (nX AX)
def Y9:Arb:=fy u1 Qv E5 CS [] Tryz.func121 HBO JAf KA9 nX
def OAr (b:As1):OL:=fun a=>mk ((b a.fId 1 1000).bind fun c=>JZ (!c) (some false) ((b a.Aa 1 3).bind fun d=>JZ (!d) (some false) ((b a.fNext 0 16).bind fun e=>JZ (!e) (some false) (JZ (a.Aa != 2) (JZ (a.fNext != 0) (some false) (JZ (ArW a) (some false) (JZ (a.Aa != 1) (JZ (As4 a) (some false) (zF a)) (zF a)))) (JZ (a.Aa != 1) (JZ (As4 a) (some false) (zF a)) (zF a))))))
def Arq:OL:=OAr AuU
def zf:Arb:=BF u1 Arq RP GK [Jm] Tryz.func112 OAr
def LA9:TAp:=fun a b=>cond a (some b) (some 0)
def PAr:TAp:=LA9
def IBO:Arb:=BF u2 PAr Ab0 E5 [] Tryz.func120 LA9
def QAr:QZ:=fun a=>mk (cond (JK (a.tmod 256)) (Ll [w8 (FN ((a.tmod 256)+256))]) (Ll [w8 (a.tmod 256)]))
def Nk:QZ:=QAr
def XR:Arb:=BF u1 Nk E5 CS [] Tryz.func122 QAr
def RAr (c:QZ):As8:=fun b=>mk ((c (Aq5 b)).bind fun a=>FH (AsU a b) (some (a++b)))
def KAf:As8:=RAr Qv
def JBO:Arb:=BF u1 KAf CS CS [Y9] Tryz.func123 RAr
def SAr (p:OL) (e:TAp) (n o:QZ) (q:As8):AvL:=fun a=>mk ((p a).bind fun h=>cond (!h) (LZ (IK,false)) ((e (Tf a) 1).bind fun i=>(e (Arh a) 2).bind fun j=>(e (ArW a) 4).bind fun l=>(e (As4 a) 8).bind fun m=>(n a.fId).bind fun b=>(o a.Aa).bind fun c=>Nc (AsU b c) ((o (D7 (D7 (D7 i j) l) m)).bind fun d=>Nc (Hr b c d) ((q (AtN a)).bind fun f=>Nc (Hr (b++c) d f) ((n a.fNext).bind fun g=>Nc (Hr ((b++c)++d) f g) (LZ ((((b++c)++d)++f)++g,true)))))))
def YT:AvL:=SAr Arq PAr Qv Nk KAf
def LAf:Arb:=BF u1 YT RP Hw [zf,IBO,Y9,XR,JBO] Tryz.func65 SAr
def TAr (f:As1) (g:QZ) (i:AvL):Arm:=fun a=>mk (cond (a.Aa == 1) (cond (AsR a.fText) (cond (Aup a.DY) (cond ((Aup (Fa a).fId) && ((Aup (Fa a).Aa) && (((Tf (Fa a)) == false) && (((Arh (Fa a)) == false) && (((ArW (Fa a)) == false) && (((As4 (Fa a)) == false) && ((eP a) && ((Aup (Fa a).fNext) && true)))))))) (Nc (AsU (Arl ⟨#[1]⟩) a.fText) (LZ ((Arl ⟨#[1]⟩)++a.fText,true))) (LZ (IK,false))) (LZ (IK,false))) (LZ (IK,false))) (cond (a.Aa == 2) (cond (EZ a.fText IK) (cond ((Aup (Fa a).fId) && ((Aup (Fa a).Aa) && (((Tf (Fa a)) == false) && (((Arh (Fa a)) == false) && (((ArW (Fa a)) == false) && (((As4 (Fa a)) == false) && ((eP a) && ((Aup (Fa a).fNext) && true)))))))) ((f a.DY 0 3).bind fun e=>cond e ((g a.DY).bind fun c=>Nc (AsU (Arl ⟨#[2]⟩) c) (LZ ((Arl ⟨#[2]⟩)++c,true))) (LZ (IK,false))) (LZ (IK,false))) (LZ (IK,false))) (cond (a.Aa == 3) ((i (Fa a)).bind fun b=>cond b.2 (cond (EZ a.fText IK) (cond (Aup a.DY) (Nc (AsU (Arl ⟨#[3]⟩) b.1) (LZ ((Arl ⟨#[3]⟩)++b.1,true))) (LZ (IK,false))) (LZ (IK,false))) (LZ (IK,false))) (cond (a.Aa == 4) (cond (EZ a.fText IK) (cond ((Aup (Fa a).fId) && ((Aup (Fa a).Aa) && (((Tf (Fa a)) == false) && (((Arh (Fa a)) == false) && (((ArW (Fa a)) == false) && (((As4 (Fa a)) == false) && ((eP a) && ((Aup (Fa a).fNext) && true)))))))) ((f a.DY 1 1000).bind fun h=>cond h ((g a.DY).bind fun d=>Nc (AsU (Arl ⟨#[4]⟩) d) (LZ ((Arl ⟨#[4]⟩)++d,true))) (LZ (IK,false))) (LZ (IK,false))) (LZ (IK,false))) (LZ (IK,false))))))
def cZ:Arm:=TAr AuU Qv YT
def UAr:Arb:=BF u1 cZ AR5 Hw [Jm,Y9,LAf] Tryz.func203 TAr
inductive zh where
 |c0 (a:Int) (b:Bf)
def LBO:zh->Asu
 |.c0 b a=>(tdo Tryz.f53 464,[vp 1 64,vi 3 b],[(64,.var [.str a.Bv,li a.DR,.BH 46 a.Ag,li a.BR,.str a.Dp,li a.fCount])])
def VAr (b:As1) (f:OL) (k:AsB zh Bool):Tj:=fun a=>mk (cond ((Aq5 a.Bv) != 32) (some false) (cond ((Aq5 (Jb a)) != 32) (some false) ((b (Aud a) 0 3).bind fun c=>cond (!c) (some false) (cond ((KU a) > 8) (some false) ((b a.BR 0 1000).bind fun d=>cond (!d) (some false) ((b a.fCount 0 10000).bind fun e=>cond (!e) (some false) (k (.c0 0 a))))))))
def MAf (a:As1) (b:OL) (k:AsB zh Bool):AsB zh Bool
 |.c0 c d=>mk (cond (Gv c (Gt d)) (cond (Nb c d) ((b (Ja (At3 d) c ⟨0,0,false,false,false,false,IK,0⟩)).bind fun e=>cond (!e) (some false) (cond (Nb c d) (cond ((Ja (At3 d) c ⟨0,0,false,false,false,false,IK,0⟩).fId > d.BR) (some false) (cond (Rn c) (cond (AtI (Nq c) (KU d)) (cond (Nb c d) (cond (At5 (Ja (At3 d) (Nq c) ⟨0,0,false,false,false,false,IK,0⟩).fId (Ja (At3 d) c ⟨0,0,false,false,false,false,IK,0⟩).fId) (some false) (k (.c0 (NM c) d))) none) none) (k (.c0 (NM c) d)))) none)) none) (some true))
def YU:ArS zh Bool
 |0,_=>none
 |m+1,s=>MAf AuU Arq (YU m) s
def cu:Tj:=VAr AuU Arq (YU AX)
def MA9:Arb:=fy u1 cu ACY GK [Jm,zf] Tryz.func53 LBO MAf VAr YU
def WAr:AuQ:=fun a=>mk (cond (Ic ((0+(Gt a))*48)) (some ⟨a.Bv,Aud a,At3 a,a.BR,Jb a,a.fCount⟩) none)
def YV:AuQ:=WAr
def XAr:Arb:=BF u1 YV ACY ACX [] Tryz.func159 WAr
inductive zi where
 |c0 (a b:Int) (d:Bf) (e:Ah)
def MBO:zi->Asu
 |.c0 d e b a=>(tdo Tryz.f55 208,[vi 1 d,vp 2 128,vp 4 256,vi 6 e],[(128,.var [.str b.Bv,li b.DR,.BH 46 b.Ag,li b.BR,.str b.Dp,li b.fCount]),(256,.var [li a.fId,li a.Aa,.bool a.CY,.bool a.CZ,.bool a.GI,.bool a.Fb,.str a.fValue,li a.fNext])])
def NA9 (k:AsB zi (Ah×Bool)):At1:=fun b a=>mk (k (.c0 a 0 b ⟨0,0,false,false,false,false,IK,0⟩))
def NAf (k:AsB zi (Ah×Bool)):AsB zi (Ah×Bool)
 |.c0 c a b d=>mk (cond (Gv a (Gt b)) (cond (Nb a b) (cond ((Ja (At3 b) a ⟨0,0,false,false,false,false,IK,0⟩).fId == c) (cond (Nb a b) (some (Ja (At3 b) a ⟨0,0,false,false,false,false,IK,0⟩,true)) none) (k (.c0 c (NM a) b d))) none) (some (⟨0,0,false,false,false,false,IK,0⟩,false)))
def dA:ArS zi (Ah×Bool)
 |0,_=>none
 |m+1,s=>NAf (dA m) s
def U9:At1:=NA9 (dA AX)
def zk:Arb:=fy u2 U9 AIP Xa [] Tryz.func55 MBO NAf NA9 dA
def YAr:dQ:=fun a b=>mk (JZ (a.Aa == b.Aa) (JZ (EZ (AtN a) (AtN b)) (JZ ((ArW a) == (ArW b)) (JZ ((As4 a) == (As4 b)) (JZ (GN a.fNext b.fNext) (JZ (Tf b) (JZ (Arh b) (some true) (some (!(Arh a)))) (JZ (!(Tf a)) (JZ (Arh b) (some true) (some (!(Arh a)))) (some false))) (some false)) (some false)) (some false)) (some false)) (some false))
def yD:dQ:=YAr
def NBO:Arb:=BF u2 yD AR6 GK [] Tryz.func206 YAr
inductive zl where
 |c0 (a:(List Ah)) (e:Int) (b:Ah) (d:(List Ah))
 |c1 (a:(List Ah)) (f:Int) (b:Ah) (d:(List Ah))
def OBO:zl->Asu
 |.c0 b e a d=>(tdo Tryz.f207 464,[vr 0 46 b,vp 3 192,vo 5 368,vi 6 e],[(192,.var [li a.fId,li a.Aa,.bool a.CY,.bool a.CZ,.bool a.GI,.bool a.Fb,.str a.fValue,li a.fNext]),(368,.sl 46 d)])
 |.c1 b f a d=>(tdo Tryz.f207 2000,[vr 0 46 b,vp 3 192,vo 5 368,vi 7 f],[(192,.var [li a.fId,li a.Aa,.bool a.CY,.bool a.CZ,.bool a.GI,.bool a.Fb,.str a.fValue,li a.fNext]),(368,.sl 46 d)])
def ZAr (k:AsB zl (List Ah)):TAd:=fun a b=>k (.c0 a 0 b [])
def nZ (k:AsB zl (List Ah)):AsB zl (List Ah)
 |.c0 a b c d=>mk (cond (Gv b a.length) (cond (AtW b a.length) (cond (ArF (Ja a b ⟨0,0,false,false,false,false,IK,0⟩).fId c.fId) (cond (AtW b a.length) (cond (Ic ((d.length+1)*48)) (k (.c0 a (NM b) c (d++[Ja a b ⟨0,0,false,false,false,false,IK,0⟩]))) none) none) (k (.c0 a (NM b) c d))) none) (cond (Ic ((d.length+1)*48)) (k (.c1 a 0 c (d++[c]))) none))
 |.c1 b a d c=>mk (cond (Gv a b.length) (cond (AtW a b.length) (cond ((Ja b a ⟨0,0,false,false,false,false,IK,0⟩).fId > d.fId) (cond (AtW a b.length) (cond (Ic ((c.length+1)*48)) (k (.c1 b (NM a) d (c++[Ja b a ⟨0,0,false,false,false,false,IK,0⟩]))) none) none) (k (.c1 b (NM a) d c))) none) (some c))
def VA:ArS zl (List Ah)
 |0,_=>none
 |m+1,s=>nZ (VA m) s
def yE:TAd:=ZAr (VA AX)
def PBO:Arb:=fy u2 yE Ab1 Ab2 [] Tryz.func207 OBO nZ ZAr VA
inductive zn where
 |c0 (a:AA) (b:Int) (d:Bf) (e:Aq) (f:AA) (g h:Int) (i:AA) (j:Int) (l:AA) (n o:Int) (p:AA) (q:Int) (t u v:(List Ah))
def QBO:zn->Asu
 |.c0 d e b a f g h i j l n o p q t u v=>(tdo Tryz.f160 32898512,[vp 2 128,vp 3 192,vp 4 256,vs 6 d,vp 8 512,vo 13 880,vi 14 e],[(128,.var [.str b.Bv,li b.DR,.BH 46 b.Ag,li b.BR,.str b.Dp,li b.fCount]),(192,.var [li a.Aa,.str a.fText,li a.DY,li a.BK.fId,li a.BK.Aa,.bool a.BK.CY,.bool a.BK.CZ,.bool a.BK.GI,.bool a.BK.Fb,.str a.BK.fValue,li a.BK.fNext]),(256,.var [.str f,li g,.own 1016386,li h,.str i,li j]),(512,.var [.str l,li n,.own 1032770,li o,.str p,li q]),(880,.sl 46 t),(1016386,.sl 46 u),(1032770,.sl 46 v)])
def AOO (S:Arm) (e:Tj) (T:AuQ) (F:At1) (U:dQ) (h:TAd) (f:As8) (k:AsB zn (Bf×Bool)):Asm:=fun a c=>mk ((S c).bind fun d=>(e a).bind fun C=>cond (!C) (some (Auj,false)) (cond (!d.2) (some (Auj,false)) (cond (a.fCount == 10000) (some (Auj,false)) ((T a).bind fun b=>cond (c.Aa == 1) (cond (Nr a d) ((f ((Jb a)++d.1)).bind fun i=>(e ⟨c.fText,0,At3 b,b.BR,i,OO a⟩).bind fun D=>RD D (Auj,false) (⟨c.fText,0,At3 b,b.BR,i,OO a⟩,true)) none) (cond (c.Aa == 2) (cond (Nr a d) ((f ((Jb a)++d.1)).bind fun j=>(e ⟨b.Bv,c.DY,At3 b,b.BR,j,OO a⟩).bind fun E=>RD E (Auj,false) (⟨b.Bv,c.DY,At3 b,b.BR,j,OO a⟩,true)) none) (cond (c.Aa == 3) ((F a (Fa c).fId).bind fun g=>cond g.2 ((U g.1 (Fa c)).bind fun G=>cond (!G) (some (Auj,false)) (cond (!g.2) (cond ((Fa c).fId != (NM a.BR)) (some (Auj,false)) (cond ((KU a) == 8) (some (Auj,false)) (cond (!g.2) ((h (At3 a) (Fa c)).bind fun l=>cond (Nr a d) ((f ((Jb a)++d.1)).bind fun m=>(e (XL b l c m a)).bind fun H=>RD H (Auj,false) (XL b l c m a,true)) none) ((h (At3 a) (Fa c)).bind fun n=>cond (Nr a d) ((f ((Jb a)++d.1)).bind fun o=>(e (XM b n o a)).bind fun I=>RD I (Auj,false) (XM b n o a,true)) none)))) (cond (!g.2) ((h (At3 a) (Fa c)).bind fun p=>cond (Nr a d) ((f ((Jb a)++d.1)).bind fun q=>(e (XL b p c q a)).bind fun J=>RD J (Auj,false) (XL b p c q a,true)) none) ((h (At3 a) (Fa c)).bind fun r=>cond (Nr a d) ((f ((Jb a)++d.1)).bind fun s=>(e (XM b r s a)).bind fun L=>RD L (Auj,false) (XM b r s a,true)) none)))) (cond (!g.2) (cond ((Fa c).fId != (NM a.BR)) (some (Auj,false)) (cond ((KU a) == 8) (some (Auj,false)) (cond (!g.2) ((h (At3 a) (Fa c)).bind fun t=>cond (Nr a d) ((f ((Jb a)++d.1)).bind fun u=>(e (XL b t c u a)).bind fun M=>RD M (Auj,false) (XL b t c u a,true)) none) ((h (At3 a) (Fa c)).bind fun v=>cond (Nr a d) ((f ((Jb a)++d.1)).bind fun w=>(e (XM b v w a)).bind fun N=>RD N (Auj,false) (XM b v w a,true)) none)))) (cond (!g.2) ((h (At3 a) (Fa c)).bind fun x=>cond (Nr a d) ((f ((Jb a)++d.1)).bind fun y=>(e (XL b x c y a)).bind fun O=>RD O (Auj,false) (XL b x c y a,true)) none) ((h (At3 a) (Fa c)).bind fun z=>cond (Nr a d) ((f ((Jb a)++d.1)).bind fun A=>(e (XM b z A a)).bind fun P=>RD P (Auj,false) (XM b z A a,true)) none)))) (cond (c.Aa == 4) ((F a c.DY).bind fun Q=>cond (!Q.2) (some (Auj,false)) (k (.c0 d.1 0 a c IK 0 0 IK 0 b.Bv (Aud b) b.BR (Jb b) b.fCount [] [] (At3 b)))) (cond (Nr a d) ((f ((Jb a)++d.1)).bind fun B=>(e ⟨b.Bv,Aud b,At3 b,b.BR,B,OO a⟩).bind fun R=>RD R (Auj,false) (⟨b.Bv,Aud b,At3 b,b.BR,B,OO a⟩,true)) none))))))))
def OAf (a:Arm) (b:Tj) (c:AuQ) (d:At1) (e:dQ) (f:TAd) (g:As8) (k:AsB zn (Bf×Bool)):AsB zn (Bf×Bool)
 |.c0 l i h p r s t u v m n o w x j y z=>mk (cond (Gv i (Gt h)) (cond (Nb i h) (cond ((Ja (At3 h) i ⟨0,0,false,false,false,false,IK,0⟩).fId != p.DY) (cond (Nb i h) (cond (Ic ((j.length+1)*48)) (k (.c0 l (NM i) h p r s t u v m n o w x (j++[Ja (At3 h) i ⟨0,0,false,false,false,false,IK,0⟩]) y z)) none) none) (k (.c0 l (NM i) h p r s t u v m n o w x j y z))) none) (cond (AsU (Jb h) l) ((g ((Jb h)++l)).bind fun q=>(b ⟨m,n,j,o,q,OO h⟩).bind fun A=>RD A (Auj,false) (⟨m,n,j,o,q,OO h⟩,true)) none))
def ng:ArS zn (Bf×Bool)
 |0,_=>none
 |m+1,s=>OAf cZ cu YV U9 yD yE As0 (ng m) s
def Ur:Asm:=AOO cZ cu YV U9 yD yE As0 (ng AX)
def BAs:Arb:=fy u2 Ur AR7 ACZ [UAr,MA9,XAr,zk,NBO,PBO,Atz] Tryz.func160 QBO OAf AOO ng
inductive zo where
 |c0 (a:AA) (b d:Int) (e:(List Int))
def RBO:zo->Asu
 |.c0 a b d e=>(tdo Tryz.f257 976,[vs 0 a,(1,[.one (.int .u8 b)]),vo 5 368,vi 6 d],[(368,.sl 5 e)])
def CAs (d:As8) (k:AsB zo AA):Asp:=fun a c=>mk (cond ((Aq5 a) > 64) ((d a).bind fun b=>k (.c0 b c 0 (Q7 (64:Int)))) (k (.c0 a c 0 (Q7 (64:Int)))))
def PAf (a:As8) (k:AsB zo AA):AsB zo AA
 |.c0 d e b c=>mk (cond (b<64) (cond (ArF b (Aq5 d)) (cond (AtI b (Aq5 d)) (cond (AvD b c) (cond (AvD b (c.set (IZ b) (bt d b))) (cond (AvD b (c.set (IZ b) (bt d b))) (k (.c0 d e (NM b) ((c.set (IZ b) (bt d b)).set (IZ b) (w8 (Arj O5 (Arc (c.set (IZ b) (bt d b)) b) e))))) none) none) none) none) (cond (AvD b c) (cond (AvD b c) (k (.c0 d e (NM b) (c.set (IZ b) (w8 (Arj O5 (Arc c b) e))))) none) none)) (Ll c))
def dB:ArS zo AA
 |0,_=>none
 |m+1,s=>PAf As0 (dB m) s
def QAf:Asp:=CAs As0 (dB AX)
def SBO:Arb:=fy u2 QAf AR8 CS [Atz] Tryz.func257 RBO PAf CAs dB
def DAs (d:Asp) (g:As8):AvH:=fun e f=>mk ((d e 92).bind fun a=>(d e 54).bind fun b=>FH (AsU b f) ((g (b++f)).bind fun c=>FH (AsU a c) (Lh (g (a++c)))))
def ni:AvH:=DAs QAf As0
def OA9:Arb:=BF u2 ni KH CS [SBO,Atz] Tryz.func213 DAs
inductive zq where
 |c0 (a:AA) (b d e:Int) (f:(List Int))
def TBO:zq->Asu
 |.c0 a b d e f=>(tdo Tryz.f169 976,[vs 0 a,vi 1 b,vi 2 d,vo 8 560,vi 9 e],[(560,.sl 5 f)])
def EAs (b:As1) (g h:QZ) (i:AvH) (k:AsB zq (AA×Bool)):Yi:=fun f c e=>mk ((b c 0 1000000000).bind fun a=>cond (!a) (LZ (IK,false)) ((b e 0 8000).bind fun d=>cond (!d) (LZ (IK,false)) (k (.c0 f c e 0 []))))
def RAf (a:As1) (b c:QZ) (d:AvH) (k:AsB zq (AA×Bool)):AsB zq (AA×Bool)
 |.c0 m j f l e=>mk (cond (ArF (NZ e) f) ((b j).bind fun g=>cond (AsU eF g) ((c l).bind fun i=>cond (Hr eF g i) ((d m ((eF++g)++i)).bind fun h=>cond (QB h) (cond (qP e h) (k (.c0 m j f (NM l) (e++(LJ h)))) none) none) none) none) (Nc (Jf f (NZ e)) (LZ (ofBytes ((e.drop 0).take ((IZ f) - 0)),true))))
def ny:ArS zq (AA×Bool)
 |0,_=>none
 |m+1,s=>RAf AuU Qv Nk ni (ny m) s
def yF:Yi:=EAs AuU Qv Nk ni (ny AX)
def PA9:Arb:=fy u3 yF rW Hw [Jm,Y9,XR,OA9] Tryz.func169 TBO RAf EAs ny
inductive zu where
 |c0 (a:AA) (b:Int) (d:(List Int))
def UBO:zu->Asu
 |.c0 a b d=>(tdo Tryz.f170 464,[vs 1 a,vo 5 368,vi 6 b],[(368,.sl 5 d)])
def FAs (k:AsB zu AA):AvH:=fun a b=>mk (cond (QB a) (k (.c0 b 0 (LJ a))) none)
def SAf (k:AsB zu AA):AsB zu AA
 |.c0 c a b=>mk (cond (ArF a (NZ b)) (cond (AvD a b) (cond (AtI a (Aq5 c)) (cond (AvD a b) (k (.c0 c (NM a) (b.set (IZ a) (w8 (Arj O5 (Arc b a) (bt c a)))))) none) none) none) (Ll b))
def oC:ArS zu AA
 |0,_=>none
 |m+1,s=>SAf (oC m) s
def yG:AvH:=FAs (oC AX)
def QA9:Arb:=fy u2 yG KH CS [] Tryz.func170 UBO SAf FAs oC
def GAs (d:QZ) (f:AvH):Yj:=fun g e c=>mk ((d e).bind fun a=>FH (AsU O8 a) (FH (Hr O8 a c) ((f g ((O8++a)++c)).bind fun b=>FH ((GN La (16:Int)) && (decide (16<=(Aq5 b)))) (some (QD b (16:Int))))))
def yH:Yj:=GAs Qv ni
def RA9:Arb:=BF u3 yH UH CS [Y9,OA9] Tryz.func171 GAs
def HAs (g:Yi) (h:AvH) (i:Yj):Wl:=fun d e f=>mk ((g d e (Aq5 f)).bind fun b=>cond (!b.2) (LZ (IK,false)) ((h f b.1).bind fun a=>(i d e a).bind fun c=>Nc (AsU a c) (LZ (a++c,true))))
def oD:Wl:=HAs yF yG yH
def SA9:Arb:=BF u3 oD UH Hw [PA9,QA9,RA9] Tryz.func125 HAs
inductive zx where
 |c0 (a:Int) (b:AA) (d:Int)
 |c1 (a:Int) (b:AA) (d e:Int)
def VBO:zx->Asu
 |.c0 a b d=>(tdo Tryz.f243 208,[(0,[.one (.int .u32 a)]),vs 1 b,vi 5 d],[])
 |.c1 a b d e=>(tdo Tryz.f243 26928,[(0,[.one (.int .u32 a)]),vs 1 b,vi 5 d,vi 6 e],[])
def IAs (k:AsB zx Int):pR:=fun a b=>k (.c0 a b 0)
def oG (k:AsB zx Int):AsB zx Int
 |.c0 c b a=>mk (cond (ArF a (Aq5 b)) (cond (AtI a (Aq5 b)) (k (.c1 (OT Arp c (w32 (bt b a))) b a 0)) none) (some c))
 |.c1 a c d b=>mk (cond (b<8) (cond (OQ a) (k (.c1 (w32 ((BitVec.toNat ((BitVec.ofInt Arp (w32 (a.tdiv 2))) ^^^ (BitVec.ofInt Arp 3558460437)):Nat):Int)) c d (NM b))) (k (.c1 (w32 (a.tdiv 2)) c d (NM b)))) (k (.c0 a c (NM d))))
def VB:ArS zx Int
 |0,_=>none
 |m+1,s=>oG (VB m) s
def TAf:pR:=IAs (VB AX)
def WBO:Arb:=fy u2 TAf AR9 SV [] Tryz.func243 VBO oG IAs VB
def JAs (b:pR):Yk:=fun c=>(b 4294967295 c).bind fun a=>some a
def UAf:Yk:=JAs TAf
def XBO:Arb:=BF u1 UAf CS SV [WBO] Tryz.func205 JAs
def KAs:QZ:=fun a=>mk (Ll [w8 (VR a (24:Int)),w8 (VR a (16:Int)),w8 (VR a (8:Int)),w8 a])
def VAf:QZ:=KAs
def YBO:Arb:=BF u1 VAf SV CS [] Tryz.func204 KAs
def LAs (f:As1) (g:QZ) (h:Yk) (i:QZ):Aur:=fun a=>mk ((f (Aq5 a) 1 9000).bind fun d=>cond (!d) (LZ (IK,false)) ((g (Aq5 a)).bind fun b=>(h a).bind fun e=>(i e).bind fun c=>Nc (AsU b c) (Nc (Hr b c a) (LZ ((b++c)++a,true)))))
def YW:Aur:=LAs AuU Qv UAf VAf
def MAs:Arb:=BF u1 YW CS Hw [Jm,Y9,XBO,YBO] Tryz.func158 LAs
def NAs (f:Arm) (h:As1) (i:Wl) (l:Aur):Aro:=fun j c g=>mk ((f g).bind fun a=>cond (!a.2) (some ([],false)) ((h c 0 10000).bind fun b=>cond (!b) (some ([],false)) ((i j (NM c) a.1).bind fun d=>(l d.1).bind fun e=>some ([⟨1,AuW,e.1,IK⟩,⟨2,AuW,IK,IK⟩],true))))
def oH:Aro:=NAs cZ AuU oD YW
def TA9:Arb:=BF u3 oH ASA ASB [UAr,Jm,SA9,MAs] Tryz.func244 NAs
def OAs (a:As1):yj:=fun b=>mk (Oo (a (Aq5 b) 1 8))
def oI:yj:=OAs AuU
def UA9:Arb:=BF u1 oI CS GK [Jm] Tryz.func95 OAs
inductive zy where
 |c0 (a:Int) (b:BO)
def ZBO:zy->Asu
 |.c0 a b=>(tdo Tryz.f48 464,[vp 1 64,vi 3 a],[(64,.var [.BH 140 b.Ai])])
def PAs (b:yj) (c:As1) (k:AsB zy Bool):OJ:=fun a=>mk (cond ((Lj a:Int) > 30) (some false) (k (.c0 0 a)))
def WAf (a:yj) (b:As1) (k:AsB zy Bool):AsB zy Bool
 |.c0 c d=>mk (cond (Gv c (Lj d)) (cond (LD c d) ((a (Atk d c).fName).bind fun e=>cond (!e) (some false) (cond ((Jk d c) > 20000) (some false) ((b (LG d c) 0 (Jk d c)).bind fun f=>cond (!f) (some false) (cond (Rn c) (cond (AtI (Nq c) (Lj d:Int)) (cond (!(pI (d.Ai.getD (Ub (c - 1)) ArQ) (Atk d c))) (some false) (k (.c0 (NM c) d))) none) (k (.c0 (NM c) d)))))) none) (some true))
def oJ:ArS zy Bool
 |0,_=>none
 |m+1,s=>WAf oI AuU (oJ m) s
def Wu:OJ:=PAs oI AuU (oJ AX)
def XAf:Arb:=fy u1 Wu AIQ GK [UA9,Jm] Tryz.func48 ZBO WAf PAs oJ
inductive LAT where
 |c0 (a:AA) (b:Int) (d:BO)
def AjK:LAT->Asu
 |.c0 a b d=>(tdo Tryz.f96 208,[vs 1 a,vp 2 128,vi 5 b],[(128,.var [.BH 140 d.Ai])])
def QAs (k:AsB LAT Int):Td:=fun b a=>k (.c0 a 0 b)
def YAf (k:AsB LAT Int):AsB LAT Int
 |.c0 c a b=>mk (cond (Gv a (Lj b)) (cond (LD a b) (cond (EZ (Atk b a).fName c) (some a) (k (.c0 c (NM a) b))) none) Au8)
def oL:ArS LAT Int
 |0,_=>none
 |m+1,s=>YAf (oL m) s
def oK:Td:=QAs (oL AX)
def RAs:Arb:=fy u2 oK rX E5 [] Tryz.func96 AjK YAf QAs oL
inductive MAT where
 |c0 (f:Int) (a:BO) (b:BQ) (d e:(List BQ))
 |c1 (g:Int) (a:BO) (b:BQ) (d e:(List BQ))
def BBP:MAT->Asu
 |.c0 f b a d e=>(tdo Tryz.f97 464,[vp 2 128,vp 3 192,vp 4 256,vp 5 320,vi 6 f],[(128,.var [.BH 140 b.Ai]),(192,.var [.str a.fName,.str a.fText,li a.Jp]),(256,.var [.own 1016384]),(320,.var [.own 1020480]),(1016384,.sl 140 d),(1020480,.sl 140 e)])
 |.c1 g b a d e=>(tdo Tryz.f97 2000,[vp 2 128,vp 3 192,vp 4 256,vp 5 320,vi 7 g],[(128,.var [.BH 140 b.Ai]),(192,.var [.str a.fName,.str a.fText,li a.Jp]),(256,.var [.own 1016384]),(320,.var [.own 1020480]),(1016384,.sl 140 d),(1020480,.sl 140 e)])
def SAs (k:AsB MAT BO):pG:=fun a b=>k (.c0 0 a b [] [])
def oM (k:AsB MAT BO):AsB MAT BO
 |.c0 b a c e d=>mk (cond (Gv b (Lj a)) (cond (LD b a) (cond (pI (Atk a b) c) (cond (LD b a) (cond (SH d) (k (.c0 (NM b) a c e (d++[Atk a b]))) none) none) (k (.c0 (NM b) a c e d))) none) (cond (SH d) (k (.c1 0 a c e (d++[c]))) none))
 |.c1 a b c e d=>mk (cond (Gv a (Lj b)) (cond (LD a b) (cond (!((pI (Atk b a) c) || (EZ (Atk b a).fName c.fName))) (cond (LD a b) (cond (SH d) (k (.c1 (NM a) b c e (d++[Atk b a]))) none) none) (k (.c1 (NM a) b c e d))) none) (some ⟨d⟩))
def AtL:ArS MAT BO
 |0,_=>none
 |m+1,s=>oM (AtL m) s
def ZAf:pG:=SAs (AtL AX)
def CBP:Arb:=fy u2 ZAf Ab3 gJ [] Tryz.func97 BBP oM SAs AtL
inductive NAT where
 |c0 (a:AA) (b:Int) (d:BO) (e f:(List BQ))
def DBP:NAT->Asu
 |.c0 a b d e f=>(tdo Tryz.f98 464,[vs 1 a,vp 2 128,vp 4 256,vp 5 320,vi 6 b],[(128,.var [.BH 140 d.Ai]),(256,.var [.own 1016384]),(320,.var [.own 1020480]),(1016384,.sl 140 e),(1020480,.sl 140 f)])
def TAs (k:AsB NAT BO):Ye:=fun b a=>k (.c0 a 0 b [] [])
def AGE (k:AsB NAT BO):AsB NAT BO
 |.c0 d a b e c=>mk (cond (Gv a (Lj b)) (cond (LD a b) (cond (!(EZ (Atk b a).fName d)) (cond (LD a b) (cond (SH c) (k (.c0 d (NM a) b e (c++[Atk b a]))) none) none) (k (.c0 d (NM a) b e c))) none) (some ⟨c⟩))
def oO:ArS NAT BO
 |0,_=>none
 |m+1,s=>AGE (oO m) s
def BAg:Ye:=TAs (oO AX)
def EBP:Arb:=fy u2 BAg rX gJ [] Tryz.func98 DBP AGE TAs oO
def UAs (c:OJ) (j:yj) (l:Td) (d:pG) (e:Ye):Yg:=fun b a=>mk (O3 (c b) (Ib (GZ,false)) (O3 (j a.fName) (Ib (GZ,false)) (cond (a.Aa != 3) (cond (!(EZ a.Ij IK)) (Ib (GZ,false)) (cond (a.Aa != 1) (cond (!(EZ a.fText IK)) (Ib (GZ,false)) ((l b a.fName).bind fun f=>cond (Aue f) (cond (LD f b) (cond (Au4 a) (cond (AsU (ArB b f) a.fText) ((d b (W9 b f a)).bind fun m=>Au5 c m (GZ,false) (m,true)) none) (cond (JK f) (Ib (GZ,false)) (cond (AsP a) ((d b (XA b f)).bind fun n=>Au5 c n (GZ,false) (n,true)) (Po a.Aa (ArF (LG b f) (Jk b f)) (Ib (GZ,false)) (cond (Ar9 a) (Ib (GZ,false)) (O3 (j a.Ij) (Ib (GZ,false)) ((e b a.fName).bind fun T=>(d T (XB a b f)).bind fun o=>Au5 c o (GZ,false) (o,true)))) (Ar1 a) ((e b a.fName).bind fun p=>Au5 c p (GZ,false) (p,true)))))) none) (cond (Au4 a) (cond (XC a) ((d b (XD a)).bind fun q=>Au5 c q (GZ,false) (q,true)) none) (cond (JK f) (Ib (GZ,false)) (cond (AsP a) ((d b (XE a)).bind fun r=>Au5 c r (GZ,false) (r,true)) (Po a.Aa (Ar9 a) (Ib (GZ,false)) (O3 (j a.Ij) (Ib (GZ,false)) ((e b a.fName).bind fun U=>(d U (XF a)).bind fun s=>Au5 c s (GZ,false) (s,true))) (Ar1 a) ((e b a.fName).bind fun t=>Au5 c t (GZ,false) (t,true)))))))) ((l b a.fName).bind fun g=>cond (Aue g) (cond (LD g b) (cond (Au4 a) (cond (AsU (ArB b g) a.fText) ((d b (W9 b g a)).bind fun u=>Au5 c u (GZ,false) (u,true)) none) (cond (JK g) (Ib (GZ,false)) (cond (AsP a) ((d b (XA b g)).bind fun v=>Au5 c v (GZ,false) (v,true)) (Po a.Aa (ArF (LG b g) (Jk b g)) (Ib (GZ,false)) (cond (Ar9 a) (Ib (GZ,false)) (O3 (j a.Ij) (Ib (GZ,false)) ((e b a.fName).bind fun V=>(d V (XB a b g)).bind fun w=>Au5 c w (GZ,false) (w,true)))) (Ar1 a) ((e b a.fName).bind fun x=>Au5 c x (GZ,false) (x,true)))))) none) (cond (Au4 a) (cond (XC a) ((d b (XD a)).bind fun y=>Au5 c y (GZ,false) (y,true)) none) (cond (JK g) (Ib (GZ,false)) (cond (AsP a) ((d b (XE a)).bind fun z=>Au5 c z (GZ,false) (z,true)) (Po a.Aa (Ar9 a) (Ib (GZ,false)) (O3 (j a.Ij) (Ib (GZ,false)) ((e b a.fName).bind fun W=>(d W (XF a)).bind fun A=>Au5 c A (GZ,false) (A,true))) (Ar1 a) ((e b a.fName).bind fun B=>Au5 c B (GZ,false) (B,true))))))))) (cond (a.Aa != 1) (cond (!(EZ a.fText IK)) (Ib (GZ,false)) ((l b a.fName).bind fun h=>cond (Aue h) (cond (LD h b) (cond (Au4 a) (cond (AsU (ArB b h) a.fText) ((d b (W9 b h a)).bind fun C=>Au5 c C (GZ,false) (C,true)) none) (cond (JK h) (Ib (GZ,false)) (cond (AsP a) ((d b (XA b h)).bind fun D=>Au5 c D (GZ,false) (D,true)) (Po a.Aa (ArF (LG b h) (Jk b h)) (Ib (GZ,false)) (cond (Ar9 a) (Ib (GZ,false)) (O3 (j a.Ij) (Ib (GZ,false)) ((e b a.fName).bind fun X=>(d X (XB a b h)).bind fun E=>Au5 c E (GZ,false) (E,true)))) (Ar1 a) ((e b a.fName).bind fun F=>Au5 c F (GZ,false) (F,true)))))) none) (cond (Au4 a) (cond (XC a) ((d b (XD a)).bind fun G=>Au5 c G (GZ,false) (G,true)) none) (cond (JK h) (Ib (GZ,false)) (cond (AsP a) ((d b (XE a)).bind fun H=>Au5 c H (GZ,false) (H,true)) (Po a.Aa (Ar9 a) (Ib (GZ,false)) (O3 (j a.Ij) (Ib (GZ,false)) ((e b a.fName).bind fun Y=>(d Y (XF a)).bind fun I=>Au5 c I (GZ,false) (I,true))) (Ar1 a) ((e b a.fName).bind fun J=>Au5 c J (GZ,false) (J,true)))))))) ((l b a.fName).bind fun i=>cond (Aue i) (cond (LD i b) (cond (Au4 a) (cond (AsU (ArB b i) a.fText) ((d b (W9 b i a)).bind fun L=>Au5 c L (GZ,false) (L,true)) none) (cond (JK i) (Ib (GZ,false)) (cond (AsP a) ((d b (XA b i)).bind fun M=>Au5 c M (GZ,false) (M,true)) (Po a.Aa (ArF (LG b i) (Jk b i)) (Ib (GZ,false)) (cond (Ar9 a) (Ib (GZ,false)) (O3 (j a.Ij) (Ib (GZ,false)) ((e b a.fName).bind fun Z=>(d Z (XB a b i)).bind fun N=>Au5 c N (GZ,false) (N,true)))) (Ar1 a) ((e b a.fName).bind fun O=>Au5 c O (GZ,false) (O,true)))))) none) (cond (Au4 a) (cond (XC a) ((d b (XD a)).bind fun P=>Au5 c P (GZ,false) (P,true)) none) (cond (JK i) (Ib (GZ,false)) (cond (AsP a) ((d b (XE a)).bind fun Q=>Au5 c Q (GZ,false) (Q,true)) (Po a.Aa (Ar9 a) (Ib (GZ,false)) (O3 (j a.Ij) (Ib (GZ,false)) ((e b a.fName).bind fun a0=>(d a0 (XF a)).bind fun R=>Au5 c R (GZ,false) (R,true))) (Ar1 a) ((e b a.fName).bind fun S=>Au5 c S (GZ,false) (S,true)))))))))))
def yI:Yg:=UAs Wu oI oK ZAf BAg
def FBP:Arb:=BF u2 yI ASC ACa [XAf,UA9,RAs,CBP,EBP] Tryz.func36 UAs
inductive QAT where
 |c0 (a:(List ET)) (b:Int) (d e:(List BQ))
def GBP:QAT->Asu
 |.c0 a b d e=>(tdo Tryz.f9 464,[vr 1 80 a,vp 4 256,vp 6 384,vi 7 b],[(256,.var [.own 1016384]),(384,.var [.own 1024576]),(1016384,.sl 140 d),(1024576,.sl 140 e)])
def VAs (c:Yg) (k:AsB QAT (BO×Int)):AvN:=fun a b=>mk (cond (Ic ((0+(Lj a))*40)) (k (.c0 b 0 [] a.Ai)) none)
def CAg (a:Yg) (k:AsB QAT (BO×Int)):AsB QAT (BO×Int)
 |.c0 c b f e=>mk (cond (Gv b c.length) (cond (AtW b c.length) ((a ⟨e⟩ (c.getD (IZ b) (⟨0,IK,IK,IK⟩:ET))).bind fun d=>cond (!d.2) (some (⟨e⟩,b)) (k (.c0 c (NM b) f d.1.Ai))) none) (some (⟨e⟩,(c.length:Int))))
def oP:ArS QAT (BO×Int)
 |0,_=>none
 |m+1,s=>CAg yI (oP m) s
def WZ:AvN:=VAs yI (oP AX)
def DAg:Arb:=fy u2 WZ ASD ASE [FBP] Tryz.func9 GBP CAg VAs oP
def WAs (c:Aro) (g:AvN):yt:=fun d h e f=>(c d e f).bind fun a=>(g h a.1).bind fun b=>some b.1
def aC:yt:=WAs oH WZ
def VA9:Arb:=BF u4 aC Ab4 gJ [TA9,DAg] Tryz.func208 WAs
def XAs (g:As8) (h:P8) (i:Asm) (j:yt):UAp:=fun a c=>mk (cond ((Aq5 a) != 32) (some (⟨IK,false,GZ,Auj,[],[],0⟩,false)) (cond ((Aq5 c) > 20) (some (⟨IK,false,GZ,Auj,[],[],0⟩,false)) ((g c).bind fun b=>h.bind fun d=>(i d ⟨1,b,0,⟨0,0,false,false,false,false,IK,0⟩⟩).bind fun e=>(j a GZ 0 ⟨1,b,0,⟨0,0,false,false,false,false,IK,0⟩⟩).bind fun f=>some (⟨a,true,f,e.1,[],[],0⟩,true))))
def EAg:UAp:=XAs As0 AtY Ur aC
def HBP:Arb:=BF u2 EAg KH AIR [Atz,zY,BAs,VA9] Tryz.func163 XAs
def YAs (d:UAp) (f:As8):pU:=fun e b=>mk ((d e b).bind fun a=>cond (!a.2) (some (⟨⟨IK,false,GZ,Auj,[],[],0⟩,[],[],[],[]⟩,false)) ((f b).bind fun c=>some (⟨a.1,[],[],[],[⟨1,c,0,⟨0,0,false,false,false,false,IK,0⟩⟩]⟩,true)))
def aJ:pU:=YAs EAg As0
def WA9:Arb:=BF u2 aJ KH ASF [HBP,Atz] Tryz.func114 YAs
def ZAs (b:Ti):dR:=fun c d=>mk ((b (Asw c) d).bind fun a=>some (Aup a.1,Asw a.2))
def Auy:dR:=ZAs Au3
def AQH:Arb:=BF u2 Auy cv5 Ab5 [eY] Tryz.func63 ZAs [0]
def BAt (c:Ti):UAd:=fun d b=>mk ((c (Asw d) (NZ b)).bind fun a=>cond (AtI a.1 (NZ b)) (some (Arc b a.1,Asw a.2)) none)
def yN:UAd:=BAt Au3
def IBP:Arb:=BF u2 yN Ab6 cv4 [eY] Tryz.func61 BAt [0]
def CAt (c:Ti):yu:=fun d b=>mk ((c (Asw d) (AuK b)).bind fun a=>cond (AtI a.1 (AuK b)) (some (ArA b a.1 IK,Asw a.2)) none)
def oU:yu:=CAt Au3
def XA9:Arb:=BF u2 oU Ab7 ASG [eY] Tryz.func64 CAt [0]
inductive UAT where
 |c0 (a b:Int) (d e:Int) (f:(List Int))
def JBP:UAT->Asu
 |.c0 a b d e f=>(tdo Tryz.f124 976,[vp 0 0,vi 1 a,vo 5 368,vi 6 b],[(0,.var [.Ji,li d,li e]),(368,.sl 5 f)])
def DAt (c:yh) (k:AsB UAT (AA×C9)):VAp:=fun a b=>cond (b > 5000) (k (.c0 5000 0 a.fI a.fH [])) (k (.c0 b 0 a.fI a.fH []))
def FAg (a:yh) (k:AsB UAT (AA×C9)):AsB UAT (AA×C9)
 |.c0 e d f g c=>mk (cond (ArF d e) ((a ⟨(),f,g⟩).bind fun b=>cond (Qo c) (k (.c0 e (NM d) b.2.fI b.2.fH (c++[w8 b.1]))) none) (some (ofBytes c,⟨(),f,g⟩)))
def dD:ArS UAT (AA×C9)
 |0,_=>none
 |m+1,s=>FAg nM (dD m) s
def GAg:VAp:=DAt nM (dD AX)
def KBP:Arb:=fy u2 GAg cv5 ASG [YA8] Tryz.func124 JBP FAg DAt dD [0]
def EAt (e:Ti) (f:dR) (t:VAp) (o:yu) (q:As8):VAd:=fun s=>mk ((e (Asw s) 6).bind fun c=>(e (Asw c.2) 3).bind fun a=>(f (Asw a.2) 2).bind fun d=>(f (Asw d.2) 2).bind fun b=>cond ((FN (1+a.1)) == 3) ((e (Asw b.2) 9).bind fun g=>(t (Asw g.2) g.1).bind fun h=>some (⟨FN (1+c.1),FN (1+a.1),d.1,b.1,false,false,h.1,0⟩,Asw h.2)) (cond ((FN (1+a.1)) == 2) ((e (Asw b.2) 17).bind fun i=>(f (Asw i.2) 4).bind fun j=>(o (Asw j.2) YAe).bind fun l=>(q l.1).bind fun p=>some (⟨FN (1+c.1),FN (1+a.1),d.1,b.1,!j.1,false,p,i.1⟩,Asw l.2)) ((f (Asw b.2) 4).bind fun m=>(o (Asw m.2) YAe).bind fun n=>(q n.1).bind fun r=>some (⟨FN (1+c.1),FN (1+a.1),d.1,b.1,false,!m.1,r,0⟩,Asw n.2))))
def yO:VAd:=EAt Au3 Auy GAg oU As0
def LBP:Arb:=BF u1 yO cv3 Ab8 [eY,AQH,KBP,XA9,Atz] Tryz.func66 EAt [0]
def FAt (b:As8):VL:=fun a=>mk (FH (AsU qQ a.BN) (Lh (b (qQ++a.BN))))
def au:VL:=FAt As0
def GAt:Arb:=BF u1 au QN CS [Atz] Tryz.func68 FAt
inductive WAT where
 |c0 (a:AA) (b:(List Int))
def MBP:WAT->Asu
 |.c0 a b=>(tdo Tryz.f67 480,[vs 0 a,vo 6 432],[(432,.sl 5 b)])
def IAt (c:QZ) (e:Wl) (k:AsB WAT (AA×Bool)):Au0:=fun d a=>mk (cond ((Aq5 a) > 400) (LZ (IK,false)) ((c (Aq5 a)).bind fun b=>cond (AsU b a) (cond (QB (b++a)) (k (.c0 d (LJ (b++a)))) none) none))
def HAg (a:QZ) (b:Wl) (k:AsB WAT (AA×Bool)):AsB WAT (AA×Bool)
 |.c0 e c=>mk (cond (((NZ c).tmod 16) != 0) (cond (Qo c) (k (.c0 e (c++[La]))) none) ((b e 0 (ofBytes c)).bind fun d=>LZ (d.1,d.2)))
def l7:ArS WAT (AA×Bool)
 |0,_=>none
 |m+1,s=>HAg Qv oD (l7 m) s
def ay:Au0:=IAt Qv oD (l7 AX)
def JAt:Arb:=fy u2 ay KH Hw [Y9,SA9] Tryz.func67 MBP HAg IAt l7
inductive XAT where
 |c0 (f:AA) (a b:Int) (g:Aj) (d e:CJ)
 |c1 (f:AA) (h a b:Int) (g:Aj) (d e:CJ)
 |c2 (f:AA) (a b:Int) (g:Aj) (d e:CJ)
 |c3 (a b:Int) (d e:CJ)
 |c4 (a b:Int) (d e:CJ)
def NBP:XAT->Asu
 |.c0 g e f d a b=>(tdo Tryz.f20 60,[vp 0 0,vs 2 g,vp 4 256,vp 6 384,vp 7 448],[(0,.var [.Ji,li e,li f]),(256,.var [.str d.BN,.bool d.Bj,.BH 140 d.Bd.Ai,.str d.AV.Bv,li d.AV.DR,.BH 46 d.AV.Ag,li d.AV.BR,.str d.AV.Dp,li d.AV.fCount,.BH 67 d.BI,.BH 73 d.BJ,li d.CU]),(384,.var [li a.Au,li a.Dz,li a.BK,li a.Aa,.str a.fText,.bool a.CY,.bool a.CZ]),(448,.var [li b.Au,li b.Dz,li b.BK,li b.Aa,.str b.fText,.bool b.CY,.bool b.CZ])])
 |.c1 g h e f d a b=>(tdo Tryz.f20 31440,[vp 0 0,vs 2 g,vp 4 256,vp 6 384,vp 7 448,vi 8 h],[(0,.var [.Ji,li e,li f]),(256,.var [.str d.BN,.bool d.Bj,.BH 140 d.Bd.Ai,.str d.AV.Bv,li d.AV.DR,.BH 46 d.AV.Ag,li d.AV.BR,.str d.AV.Dp,li d.AV.fCount,.BH 67 d.BI,.BH 73 d.BJ,li d.CU]),(384,.var [li a.Au,li a.Dz,li a.BK,li a.Aa,.str a.fText,.bool a.CY,.bool a.CZ]),(448,.var [li b.Au,li b.Dz,li b.BK,li b.Aa,.str b.fText,.bool b.CY,.bool b.CZ])])
 |.c2 g e f d a b=>(tdo Tryz.f20 124,[vp 0 0,vs 2 g,vp 4 256,vp 6 384,vp 7 448],[(0,.var [.Ji,li e,li f]),(256,.var [.str d.BN,.bool d.Bj,.BH 140 d.Bd.Ai,.str d.AV.Bv,li d.AV.DR,.BH 46 d.AV.Ag,li d.AV.BR,.str d.AV.Dp,li d.AV.fCount,.BH 67 d.BI,.BH 73 d.BJ,li d.CU]),(384,.var [li a.Au,li a.Dz,li a.BK,li a.Aa,.str a.fText,.bool a.CY,.bool a.CZ]),(448,.var [li b.Au,li b.Dz,li b.BK,li b.Aa,.str b.fText,.bool b.CY,.bool b.CZ])])
 |.c3 e f a b=>(tdo Tryz.f20 252,[vp 0 0,vp 6 384,vp 7 448],[(0,.var [.Ji,li e,li f]),(384,.var [li a.Au,li a.Dz,li a.BK,li a.Aa,.str a.fText,.bool a.CY,.bool a.CZ]),(448,.var [li b.Au,li b.Dz,li b.BK,li b.Aa,.str b.fText,.bool b.CY,.bool b.CZ])])
 |.c4 e f a b=>(tdo Tryz.f20 508,[vp 0 0,vp 6 384,vp 7 448],[(0,.var [.Ji,li e,li f]),(384,.var [li a.Au,li a.Dz,li a.BK,li a.Aa,.str a.fText,.bool a.CY,.bool a.CZ]),(448,.var [li b.Au,li b.Dz,li b.BK,li b.Aa,.str b.fText,.bool b.CY,.bool b.CZ])])
def KAt (f:UAd) (h:Ti) (i:dR) (j:yu) (l:VAd) (m:AvL) (n:VL) (o:Au0) (k:AsB XAT (CJ×C9)):WAd:=fun g a e=>mk ((f (Asw g) [1,2,2,3,4,4,4,5,5,5,6,7,8,9,10,11,12,13]).bind fun c=>cond (QA a) (k (.c0 e c.2.fI c.2.fH a ⟨0,0,0,0,IK,false,false⟩ ⟨1,0,0,0,IK,false,false⟩)) ((h (Asw c.2) (He a:Int)).bind fun b=>cond (AtI b.1 (He a:Int)) (cond (XJ La (He a:Int)) (cond (!(KT (Eb a) La ⟨0,false⟩).RS) ((i (Asw b.2) 4).bind fun d=>cond (!d.1) (cond (XJ La (He a:Int)) (k (.c0 e d.2.fI d.2.fH a ⟨0,0,0,0,IK,false,false⟩ ⟨2,(KT (Eb a) La ⟨0,false⟩).fId,0,0,IK,false,false⟩)) none) (k (.c0 e d.2.fI d.2.fH a ⟨0,0,0,0,IK,false,false⟩ ⟨c.1,(KT (Eb a) b.1 ⟨0,false⟩).fId,0,0,IK,false,false⟩))) (k (.c0 e b.2.fI b.2.fH a ⟨0,0,0,0,IK,false,false⟩ ⟨c.1,(KT (Eb a) b.1 ⟨0,false⟩).fId,0,0,IK,false,false⟩))) none) none))
def Xk (a:UAd) (b:Ti) (c:dR) (d:yu) (e:VAd) (f:AvL) (g:VL) (h:Au0) (k:AsB XAT (CJ×C9)):AsB XAT (CJ×C9)
 |.c0 m o p j n i=>mk (cond (Rn (KU (As9 j))) ((b ⟨(),o,p⟩ (KU (As9 j))).bind fun l=>cond (AtI l.1 (KU (As9 j))) (cond (i.Au == 5) (k (.c1 m 0 l.2.fI l.2.fH j n ⟨i.Au,Atp i,(Ja (At3 (As9 j)) l.1 ⟨0,0,false,false,false,false,IK,0⟩).fId,i.Aa,i.fText,i.CY,i.CZ⟩)) (k (.c2 m l.2.fI l.2.fH j n ⟨i.Au,Atp i,(Ja (At3 (As9 j)) l.1 ⟨0,0,false,false,false,false,IK,0⟩).fId,i.Aa,i.fText,i.CY,i.CZ⟩))) none) (k (.c2 m o p j n i)))
 |.c1 n l p q i o j=>mk (cond (Gv l (Gt (As9 i))) (cond (Nb l (As9 i)) (cond (ArW (Ja (At3 (As9 i)) l ⟨0,0,false,false,false,false,IK,0⟩)) ((c ⟨(),p,q⟩ 3).bind fun m=>cond (!m.1) (cond (Nb l (As9 i)) (k (.c1 n (NM l) m.2.fI m.2.fH i o ⟨j.Au,Atp j,(Ja (At3 (As9 i)) l ⟨0,0,false,false,false,false,IK,0⟩).fId,j.Aa,j.fText,j.CY,j.CZ⟩)) none) (k (.c1 n (NM l) m.2.fI m.2.fH i o j))) (k (.c1 n (NM l) p q i o j))) none) (k (.c2 n p q i o j)))
 |.c2 w l m A j i=>mk (cond (i.Au == 2) ((c ⟨(),l,m⟩ 4).bind fun n=>cond n.1 (k (.c3 n.2.fI n.2.fH j ⟨i.Au,Atp i,i.BK,i.Aa,⟨#[110,111]⟩,i.CY,i.CZ⟩)) (k (.c3 n.2.fI n.2.fH j ⟨i.Au,Atp i,i.BK,i.Aa,w,i.CY,i.CZ⟩))) (cond (i.Au == 3) (k (.c3 l m j ⟨i.Au,Atp i,i.BK,i.Aa,w,i.CY,i.CZ⟩)) (cond (i.Au == 4) ((a ⟨(),l,m⟩ [1,2,2,2,3,3]).bind fun s=>(d (Asw s.2) YAe).bind fun t=>(c (Asw t.2) 3).bind fun u=>(c (Asw u.2) 3).bind fun o=>k (.c3 o.2.fI o.2.fH j ⟨i.Au,Atp i,i.BK,s.1,t.1,u.1,o.1⟩)) (cond (i.Au == 5) ((d ⟨(),l,m⟩ [⟨#[109]⟩,⟨#[110]⟩]).bind fun p=>k (.c3 p.2.fI p.2.fH j ⟨i.Au,Atp i,i.BK,i.Aa,p.1,i.CY,i.CZ⟩)) (cond (i.Au == 8) ((c ⟨(),l,m⟩ 4).bind fun v=>(c (Asw v.2) 2).bind fun q=>k (.c3 q.2.fI q.2.fH j ⟨i.Au,Atp i,i.BK,i.Aa,i.fText,!v.1,q.1⟩)) (cond (i.Au == 11) ((e ⟨(),l,m⟩).bind fun r=>(f r.1).bind fun x=>(g A).bind fun y=>(h y x.1).bind fun z=>k (.c3 r.2.fI r.2.fH j ⟨i.Au,Atp i,i.BK,i.Aa,z.1,i.CY,i.CZ⟩)) (k (.c3 l m j i))))))))
 |.c3 n o m i=>mk ((c ⟨(),n,o⟩ 20).bind fun j=>cond j.1 ((b (Asw j.2) 5).bind fun l=>k (.c4 l.2.fI l.2.fH m ⟨i.Au,l.1,i.BK,i.Aa,i.fText,i.CY,i.CZ⟩)) (k (.c4 j.2.fI j.2.fH m i)))
 |.c4 m n _ i=>mk ((c ⟨(),m,n⟩ 20).bind fun j=>cond j.1 ((b (Asw j.2) 9).bind fun l=>some (⟨i.Au,Atp i,l.1,i.Aa,i.fText,i.CY,i.CZ⟩,Asw l.2)) (some (i,Asw j.2)))
def PZ:ArS XAT (CJ×C9)
 |0,_=>none
 |m+1,s=>Xk yN Au3 Auy oU yO YT au ay (PZ m) s
def tJ:WAd:=KAt yN Au3 Auy oU yO YT au ay (PZ AX)
def YA9:Arb:=fy u3 tJ Ab9 AcA [IBP,eY,AQH,XA9,LBP,LAf,GAt,JAt] Tryz.func20 NBP Xk KAt PZ [0]
def LAt (b:dR) (L:WAd) (c:Ti):XAd:=fun J a=>mk (cond (!a.Ad.Bj) ((b (Asw J) 4).bind fun h=>cond (!h.1) (some (⟨⟨0,0,0,0,IK,false,false⟩,false,[],true⟩,Asw h.2,a)) ((L (Asw h.2) a.Ad ⟨#[119]⟩).bind fun d=>cond (Rn (AuK (ArK a))) (cond (d.1.Au == 11) ((b (Asw d.2) 2).bind fun i=>cond i.1 ((c (Asw i.2) (AuK (ArK a))).bind fun f=>cond (AtI f.1 (AuK (ArK a))) ((b (Asw f.2) 12).bind fun j=>cond j.1 ((c (Asw j.2) 2000).bind fun t=>(c (Asw t.2) 50).bind fun u=>Nh b u.2 ⟨⟨0,0,0,0,IK,false,false⟩,false,[],true⟩ a ⟨zA d a f,true,[t.1,u.1],false⟩) (Nh b j.2 ⟨⟨0,0,0,0,IK,false,false⟩,false,[],true⟩ a ⟨zA d a f,false,[],false⟩)) none) ((b (Asw i.2) 12).bind fun l=>cond l.1 ((c (Asw l.2) 2000).bind fun v=>(c (Asw v.2) 50).bind fun w=>Nh b w.2 ⟨⟨0,0,0,0,IK,false,false⟩,false,[],true⟩ a ⟨d.1,true,[v.1,w.1],false⟩) (Nh b l.2 ⟨⟨0,0,0,0,IK,false,false⟩,false,[],true⟩ a ⟨d.1,false,[],false⟩))) ((b (Asw d.2) 12).bind fun m=>cond m.1 ((c (Asw m.2) 2000).bind fun x=>(c (Asw x.2) 50).bind fun y=>Nh b y.2 ⟨⟨0,0,0,0,IK,false,false⟩,false,[],true⟩ a ⟨d.1,true,[x.1,y.1],false⟩) (Nh b m.2 ⟨⟨0,0,0,0,IK,false,false⟩,false,[],true⟩ a ⟨d.1,false,[],false⟩))) ((b (Asw d.2) 12).bind fun n=>cond n.1 ((c (Asw n.2) 2000).bind fun z=>(c (Asw z.2) 50).bind fun A=>Nh b A.2 ⟨⟨0,0,0,0,IK,false,false⟩,false,[],true⟩ a ⟨d.1,true,[z.1,A.1],false⟩) (Nh b n.2 ⟨⟨0,0,0,0,IK,false,false⟩,false,[],true⟩ a ⟨d.1,false,[],false⟩)))) ((L (Asw J) a.Ad ⟨#[119]⟩).bind fun e=>cond (Rn (AuK (ArK a))) (cond (e.1.Au == 11) ((b (Asw e.2) 2).bind fun o=>cond o.1 ((c (Asw o.2) (AuK (ArK a))).bind fun g=>cond (AtI g.1 (AuK (ArK a))) ((b (Asw g.2) 12).bind fun p=>cond p.1 ((c (Asw p.2) 2000).bind fun B=>(c (Asw B.2) 50).bind fun C=>Nh b C.2 ⟨⟨0,0,0,0,IK,false,false⟩,false,[],true⟩ a ⟨zA e a g,true,[B.1,C.1],false⟩) (Nh b p.2 ⟨⟨0,0,0,0,IK,false,false⟩,false,[],true⟩ a ⟨zA e a g,false,[],false⟩)) none) ((b (Asw o.2) 12).bind fun q=>cond q.1 ((c (Asw q.2) 2000).bind fun D=>(c (Asw D.2) 50).bind fun E=>Nh b E.2 ⟨⟨0,0,0,0,IK,false,false⟩,false,[],true⟩ a ⟨e.1,true,[D.1,E.1],false⟩) (Nh b q.2 ⟨⟨0,0,0,0,IK,false,false⟩,false,[],true⟩ a ⟨e.1,false,[],false⟩))) ((b (Asw e.2) 12).bind fun r=>cond r.1 ((c (Asw r.2) 2000).bind fun F=>(c (Asw F.2) 50).bind fun G=>Nh b G.2 ⟨⟨0,0,0,0,IK,false,false⟩,false,[],true⟩ a ⟨e.1,true,[F.1,G.1],false⟩) (Nh b r.2 ⟨⟨0,0,0,0,IK,false,false⟩,false,[],true⟩ a ⟨e.1,false,[],false⟩))) ((b (Asw e.2) 12).bind fun s=>cond s.1 ((c (Asw s.2) 2000).bind fun H=>(c (Asw H.2) 50).bind fun I=>Nh b I.2 ⟨⟨0,0,0,0,IK,false,false⟩,false,[],true⟩ a ⟨e.1,true,[H.1,I.1],false⟩) (Nh b s.2 ⟨⟨0,0,0,0,IK,false,false⟩,false,[],true⟩ a ⟨e.1,false,[],false⟩))))
def tN:XAd:=LAt Auy tJ Au3
def OBP:Arb:=BF u2 tN AcB AcC [AQH,YA9,eY] Tryz.func115 LAt [0, 64]
def MAt:dS:=fun a b c=>mk (cond (Ic ((0+a.Du.length)*8)) (cond (QC a.Du) (cond (AvJ (0+(ArK a).length)) (cond (AuZ (ArK a)) (some ⟨a.Ad,a.Du++[b],(ArK a)++[c],a.Ey,a.Ez⟩) none) none) none) none)
def WQ:dS:=MAt
def NAt:Arb:=BF u3 WQ AcD rY [] Tryz.func166 MAt [0]
def ZA9:dU:=fun a b=>some ([],a,b)
def qU:dU:=ZA9
def AAU:Arb:=BF u2 qU AIS Nw [] Tryz.func245 ZA9
def OAt:Mc:=fun a=>mk (cond (a<10) (some (w8 (FN (48+a)))) (some (w8 (FN ((FN (97+a)) - 10)))))
def IAg:Mc:=OAt
def PBP:Arb:=BF u1 IAg E5 AcE [] Tryz.func275 OAt
inductive BAU where
 |c0 (a:Int) (b:Bool) (d:AA)
def QBP:BAU->Asu
 |.c0 a b d=>(tdo Tryz.f247 992,[vi 0 a,vb 3 b,vs 4 d],[])
def PAt (b:Mc) (k:AsB BAU AA):QZ:=fun a=>mk (cond (Aup a) (some ⟨#[48]⟩) (k (.c0 a (JK a) IK)))
def QAt (a:Mc) (k:AsB BAU AA):AsB BAU AA
 |.c0 c e b=>mk (cond (c != 0) (cond (JK (c.tmod 10)) ((a (FN (0 - (c.tmod 10)))).bind fun d=>cond (AsU (ofBytes [d]) b) (k (.c0 (FN (c.tdiv 10)) e ((ofBytes [d])++b))) none) ((a (c.tmod 10)).bind fun f=>cond (AsU (ofBytes [f]) b) (k (.c0 (FN (c.tdiv 10)) e ((ofBytes [f])++b))) none)) (cond e (FH (AsU (Arl ⟨#[45]⟩) b) (some ((Arl ⟨#[45]⟩)++b))) (some b)))
def wX:ArS BAU AA
 |0,_=>none
 |m+1,s=>QAt IAg (wX m) s
def iJ:QZ:=PAt IAg (wX AX)
def AXS:Arb:=fy u1 iJ E5 CS [PBP] Tryz.func247 QBP QAt PAt wX
def BBA:dV:=fun a b=>some (a,0,b)
def qV:dV:=BBA
def DAU:Arb:=BF u2 qV AcF Nw [] Tryz.func246 BBA
inductive EAU where
 |c0 (a b:Int) (d:Aj)
def RBP:EAU->Asu
 |.c0 b d a=>(tdo Tryz.f248 208,[vi 1 b,vp 2 128,vi 5 d],[(128,.var [.str a.BN,.bool a.Bj,.BH 140 a.Bd.Ai,.str a.AV.Bv,li a.AV.DR,.BH 46 a.AV.Ag,li a.AV.BR,.str a.AV.Dp,li a.AV.fCount,.BH 67 a.BI,.BH 73 a.BJ,li a.CU])])
def RAt (k:AsB EAU Int):Wh:=fun b a=>k (.c0 a 0 b)
def JAg (k:AsB EAU Int):AsB EAU Int
 |.c0 c a b=>mk (cond (Gv a (He b)) (cond (AtW a (He b)) (cond ((KT (Eb b) a ⟨0,false⟩).fId == c) (some a) (k (.c0 c (NM a) b))) none) Au8)
def iH:ArS EAU Int
 |0,_=>none
 |m+1,s=>JAg (iH m) s
def KAg:Wh:=RAt (iH AX)
def SBP:Arb:=fy u2 KAg rZ E5 [] Tryz.func248 RBP JAg RAt iH
def SAt (d:dU) (e:As8) (c:dV):J7:=fun a f=>mk (cond ((OI a) == 3) (AsJ (d 3 ⟨#[108,111,99,107,101,100]⟩)) ((e f.fText).bind fun b=>cond (EZ b (As9 a).Bv) (cond (Aup (OI a)) (AsJ (c [] IK)) (AsJ (c [⟨2,IK,0,⟨0,0,false,false,false,false,IK,0⟩⟩] IK))) (some ([⟨2,IK,NM (OI a),⟨0,0,false,false,false,false,IK,0⟩⟩],4,⟨#[119,111,114,100]⟩))))
def LAg:J7:=SAt qU As0 qV
def TBP:Arb:=BF u2 LAg ZR Nw [AAU,Atz,DAU] Tryz.func249 SAt
def TAt (d:As8):pV:=fun a b=>mk (cond (a == 1) ((d b).bind fun c=>some (⟨0,a,true,false,false,true,c,0⟩,true)) (cond (a == 2) ((d b).bind fun e=>some (⟨0,a,true,false,true,false,e,0⟩,true)) (cond (a == 3) (cond ((Aq5 b)<=100) (some (⟨0,a,false,false,false,false,b,0⟩,true)) (some (⟨0,0,false,false,false,false,IK,0⟩,false))) (some (⟨0,0,false,false,false,false,IK,0⟩,false)))))
def MAg:pV:=TAt As0
def UBP:Arb:=BF u2 MAg AIS Xa [Atz] Tryz.func250 TAt
def CBA:yw:=fun a=>mk (some [⟨3,IK,0,a⟩])
def NAg:yw:=CBA
def UAt:Arb:=BF u1 NAg RP AcG [] Tryz.func276 CBA
def VAt (g:dU) (c:yw) (d:QZ) (e:dV):Yl:=fun b f a q=>mk (cond (!q) (AsJ (g 6 zJ)) (cond ((KU (As9 b)) == 8) (AsJ (g 1 dw)) (cond ((Qx b) == 1000) (AsJ (g 1 dw)) (cond (Tf a) (cond (Arh a) ((c ⟨Am b,a.Aa,true,true,ArW a,As4 a,AtN a,a.fNext⟩).bind fun h=>(d (Am b)).bind fun i=>AsJ (e h i)) ((c ⟨Am b,a.Aa,true,f.CZ,ArW a,As4 a,AtN a,a.fNext⟩).bind fun j=>(d (Am b)).bind fun l=>AsJ (e j l))) (cond (Arh a) ((c ⟨Am b,a.Aa,f.CY,true,ArW a,As4 a,AtN a,a.fNext⟩).bind fun m=>(d (Am b)).bind fun n=>AsJ (e m n)) ((c ⟨Am b,a.Aa,f.CY,f.CZ,ArW a,As4 a,AtN a,a.fNext⟩).bind fun o=>(d (Am b)).bind fun p=>AsJ (e o p)))))))
def tV:Yl:=VAt qU NAg iJ qV
def DBA:Arb:=BF u4 tV ASH Nw [AAU,UAt,AXS,DAU] Tryz.func251 VAt
def WAt:WAp:=fun a b=>mk (some (EZ a b))
def XAt:WAp:=WAt
def VBP:Arb:=BF u2 XAt KH GK [] Tryz.func198 WAt
def YAt (h:Yi) (i:Yj) (j:WAp) (l:AvH):Wl:=fun c d a=>mk (cond ((Aq5 a)<16) (LZ (IK,false)) (Nc (zN a) ((h c d (Aq5 (Y5 a))).bind fun b=>cond (!b.2) (LZ (IK,false)) ((i c d (Y5 a)).bind fun e=>Nc (Jf (Aq5 (Y5 a)) (Aq5 a)) ((j e (O7 a (Aq5 (Y5 a)))).bind fun f=>cond (!f) (LZ (IK,false)) ((l (Y5 a) b.1).bind fun g=>LZ (g,true)))))))
def iK:Wl:=YAt yF yH XAt yG
def EBA:Arb:=BF u3 iK UH Hw [PA9,RA9,VBP,QA9] Tryz.func156 YAt
inductive GAU where
 |c0 (a:AA) (b d:Int) (e f:Int)
def WBP:GAU->Asu
 |.c0 a b d e f=>(tdo Tryz.f197 2000,[vs 0 a,vi 1 b,vi 7 d,vi 8 e,vi 9 f],[])
def yP (d:As1) (e:QZ) (k:AsB GAU (Int×Int×Bool)):Q5:=fun c a=>mk ((d a 0 (Aq5 c)).bind fun b=>cond (!b) (some (0,0,false)) (k (.c0 c a 0 1 a)))
def OAg (a:As1) (b:QZ) (k:AsB GAU (Int×Int×Bool)):AsB GAU (Int×Int×Bool)
 |.c0 d f g e c=>mk (cond (ArF c (Aq5 d)) (cond (ArF c (FN (f+5))) (cond (AtI c (Aq5 d)) (cond (AtI c (Aq5 d)) (cond ((bt d c)<128) (cond ((D7 g (FN (((Auf d c).tmod 128)*e))) > 1000000000) (some (0,0,false)) ((b (D7 g (FN (((Auf d c).tmod 128)*e)))).bind fun h=>cond (AuB f (NM c) (Aq5 d)) (cond (!(EZ h (d.extract (IZ f) (AuX c)))) (some (0,0,false)) (some (D7 g (FN (((Auf d c).tmod 128)*e)),NM c,true))) none)) (k (.c0 d f (D7 g (FN (((Auf d c).tmod 128)*e))) (FN (e*128)) (NM c)))) none) none) (some (0,0,false))) (some (0,0,false)))
def TT:ArS GAU (Int×Int×Bool)
 |0,_=>none
 |m+1,s=>OAg AuU Qv (TT m) s
def AvB:Q5:=yP AuU Qv (TT AX)
def ZAt:Arb:=fy u2 AvB QM ASI [Jm,Y9] Tryz.func197 WBP OAg yP TT
def AJH (f:Wl) (g:Q5) (h:Au0):Au0:=fun d e=>mk ((f d 0 e).bind fun b=>(g b.1 0).bind fun a=>cond (!b.2) (LZ (IK,false)) (cond (!a.2.2) (LZ (IK,false)) (cond (a.1 > (ArU (Aq5 b.1) a.2.1)) (LZ (IK,false)) (Nc (AuB a.2.1 (D7 a.2.1 a.1) (Aq5 b.1)) ((h d (Jl b.1 a.2.1 (a.2.1+a.1))).bind fun c=>cond (!c.2) (LZ (IK,false)) (cond (!(EZ c.1 e)) (LZ (IK,false)) (LZ (Jl b.1 a.2.1 (a.2.1+a.1),true))))))))
def PAg:Au0:=AJH iK AvB ay
def XBP:Arb:=BF u2 PAg KH Hw [EBA,ZAt,JAt] Tryz.func277 AJH
def QAg (c:Q5):Ym:=fun a=>(c a.fText a.D8).bind fun b=>cond a.Ih (some (0,⟨a.fText,a.D8,true⟩)) (cond (!b.2.2) (some (0,⟨a.fText,a.D8,true⟩)) (some (b.1,⟨a.fText,b.2.1,a.Ih⟩)))
def Yc:Ym:=QAg AvB
def BAu:Arb:=BF u1 Yc AIT ASJ [ZAt] Tryz.func201 QAg [0]
def RAg:yx:=fun a b=>mk (cond a.Ih (some (IK,⟨a.fText,a.D8,true⟩)) (cond (b > (ArU (Aq5 a.fText) a.D8)) (some (IK,⟨a.fText,a.D8,true⟩)) (cond (AuB (ArU (D7 a.D8 b) b) (D7 a.D8 b) (Aq5 a.fText)) (some (a.fText.extract (Ub ((D7 a.D8 b) - b)) (Ub (a.D8+b)),⟨a.fText,D7 a.D8 b,a.Ih⟩)) none)))
def Auh:yx:=RAg
def CAu:Arb:=BF u2 Auh AcH ASL [] Tryz.func200 RAg [0]
def SAg (b:yx):Ym:=fun c=>mk ((b c 1).bind fun a=>cond a.2.Ih (some (0,a.2)) (cond (XJ La (Aq5 a.1)) (some (FN (bt a.1 0),a.2)) none))
def TV:Ym:=SAg Auh
def FBA:Arb:=BF u1 TV AIT ASJ [CAu] Tryz.func199 SAg [0]
def TAg (c:Ym) (e:yx):XAp:=fun d=>(c d).bind fun a=>(e a.2 a.1).bind fun b=>some (b.1,b.2)
def oW:XAp:=TAg Yc Auh
def YBP:Arb:=BF u1 oW AIT ASL [BAu,CAu] Tryz.func242 TAg [0]
def UAg (g i:Ym) (j:XAp) (l:AvL):Yn:=fun h=>mk ((g ⟨h,0,false⟩).bind fun b=>(i b.2).bind fun c=>(i c.2).bind fun a=>(j a.2).bind fun d=>(g d.2).bind fun e=>(l ⟨b.1,c.1,OQ a.1,OQ (Au6 a.1),OQ (Y7 a.1),OQ (FN (Ns a.1)),d.1,e.1⟩).bind fun f=>cond e.2.Ih (some (⟨0,0,false,false,false,false,IK,0⟩,false)) (cond (!f.2) (some (⟨0,0,false,false,false,false,IK,0⟩,false)) (cond (!(EZ f.1 h)) (some (⟨0,0,false,false,false,false,IK,0⟩,false)) (some (⟨b.1,c.1,OQ a.1,OQ (Au6 a.1),OQ (Y7 a.1),OQ (FN (Ns a.1)),d.1,e.1⟩,true)))))
def Wj:Yn:=UAg Yc TV oW YT
def GBA:Arb:=BF u1 Wj CS Xa [BAu,FBA,YBP,LAf] Tryz.func202 UAg
def HBA:pW:=fun a=>mk (some ⟨0,a.Aa,Tf a,Arh a,false,As4 a,AtN a,0⟩)
def DAu:pW:=HBA
def ZBP:Arb:=BF u1 DAu RP RP [] Tryz.func278 HBA
def EAu (h:VL) (i:Au0) (j:Yn) (l:pW) (g:Yl):J7:=fun a c=>mk ((h a).bind fun f=>(i f c.fText).bind fun b=>(j b.1).bind fun d=>(l d.1).bind fun e=>cond b.2 (AsJ (g a c e d.2)) (AsJ (g a c e false)))
def VAg:J7:=EAu au PAg Wj DAu tV
def Ajk:Arb:=BF u2 VAg ZR Nw [GAt,XBP,GBA,ZBP,DBA] Tryz.func252 EAu
def FAu (d:OL):pX:=fun a b=>mk ((d a).bind fun c=>JZ (!c) (some false) (JZ (b == 1) (some (!(Tf a))) (JZ (b == 2) (JZ (!(Arh a)) (some (a.Aa != 2)) (some false)) (JZ (b == 3) (some (ArW a)) (JZ (b == 4) (some (As4 a)) (some (b == 5)))))))
def WAg:pX:=FAu Arq
def BBQ:Arb:=BF u2 WAg ASM GK [zf] Tryz.func279 FAu
inductive IAU where
 |c0 (a:Int) (b:Aj) (d:Ah)
def CBQ:IAU->Asu
 |.c0 d a b=>(tdo Tryz.f56 208,[vp 2 128,vp 3 192,vi 5 d],[(128,.var [.str a.BN,.bool a.Bj,.BH 140 a.Bd.Ai,.str a.AV.Bv,li a.AV.DR,.BH 46 a.AV.Ag,li a.AV.BR,.str a.AV.Dp,li a.AV.fCount,.BH 67 a.BI,.BH 73 a.BJ,li a.CU]),(192,.var [li b.fId,li b.Aa,.bool b.CY,.bool b.CZ,.bool b.GI,.bool b.Fb,.str b.fValue,li b.fNext])])
def GAu (k:AsB IAU Int):YAd:=fun a b=>k (.c0 0 a b)
def XAg (k:AsB IAU Int):AsB IAU Int
 |.c0 a b c=>mk (cond (Gv a (Tn b)) (cond (AtW a (Tn b)) (cond ((Ary (Md b) a).fId == c.fId) (cond (AtW a (Tn b)) (some (Ary (Md b) a).fNext) none) (k (.c0 (NM a) b c))) none) (some c.fNext))
def iO:ArS IAU Int
 |0,_=>none
 |m+1,s=>XAg (iO m) s
def uD:YAd:=GAu (iO AX)
def IBA:Arb:=fy u2 uD AcI E5 [] Tryz.func56 CBQ XAg GAu iO
def HAu (c:QZ):Asp:=fun b d=>mk ((c d).bind fun a=>FH (AsU b a) (FH (AsU (b++a) qR) (some ((b++a)++qR))))
def YAg:Asp:=HAu Nk
def DBQ:Arb:=BF u2 YAg QM CS [XR] Tryz.func310 HAu
def IAu (b:As8):As8:=fun c=>mk ((b c).bind fun a=>FH ((GN La AuL) && (decide (4<=(Aq5 a)))) (some (QD a AuL)))
def Pj:As8:=IAu As0
def KAU:Arb:=BF u1 Pj CS CS [Atz] Tryz.func346 IAu
inductive LAU where
 |c0 (a:AA) (b d:Int) (e:(List AA))
def EBQ:LAU->Asu
 |.c0 a b d e=>(tdo Tryz.f329 464,[vs 0 a,vi 1 b,vo 5 368,vi 6 d],[(368,.sl 9 e)])
def JAu (c:QZ) (d:As8) (k:AsB LAU (List AA)):VN:=fun a b=>k (.c0 a b 0 [])
def ZAg (a:QZ) (b:As8) (k:AsB LAU (List AA)):AsB LAU (List AA)
 |.c0 d h f g=>mk (cond (f<10) ((a h).bind fun c=>cond (AsU d c) ((a f).bind fun e=>cond (Hr d c e) (cond (AsU ((d++c)++e) (Arl ⟨#[111]⟩)) ((b (((d++c)++e)++(Arl ⟨#[111]⟩))).bind fun i=>cond (AuZ g) (k (.c0 d h (NM f) (g++[i]))) none) none) none) none) (some g))
def Zh:ArS LAU (List AA)
 |0,_=>none
 |m+1,s=>ZAg Nk Pj (Zh m) s
def iP:VN:=JAu Nk Pj (Zh AX)
def JBA:Arb:=fy u2 iP QM UJ [XR,KAU] Tryz.func329 EBQ ZAg JAu Zh
inductive MAU where
 |c0 (a:AA) (b d:Int) (e f g:Int)
def FBQ:MAU->Asu
 |.c0 a b d e f g=>(tdo Tryz.f345 208,[vs 0 a,vi 1 b,vi 2 d,vi 3 e,vi 4 f,vi 11 g],[])
def KAu (f:QZ) (g:As8) (k:AsB MAU AA):SB:=fun a b c d e=>k (.c0 a b c d e 0)
def ADE (a:QZ) (b:As8) (k:AsB MAU AA):AsB MAU AA
 |.c0 g i j l h e=>mk (cond (ArF e h) (cond (e<15) ((a i).bind fun c=>(a j).bind fun d=>cond (AsU c d) ((a (D7 (l.tmod 256) e)).bind fun f=>cond (Hr c d f) (cond (Hr (c++d) f g) ((b (((c++d)++f)++g)).bind fun m=>k (.c0 m i j l h (NM e))) none) none) none) (some g)) (some g))
def iQ:ArS MAU AA
 |0,_=>none
 |m+1,s=>ADE Nk Pj (iQ m) s
def Zj:SB:=KAu Nk Pj (iQ AX)
def KBA:Arb:=fy u5 Zj ASN CS [XR,KAU] Tryz.func345 FBQ ADE KAu iQ
inductive NAU where
 |c0 (a:(List AA)) (b:Int) (d:AA) (e:Int)
def GBQ:NAU->Asu
 |.c0 a b d e=>(tdo Tryz.f343 976,[vr 0 9 a,vi 1 b,vs 5 d,vi 6 e],[])
def LAu (c:SB) (d:As8) (k:AsB NAU AA):Yo:=fun a b=>mk (cond ((AuK a) != 10) Wx (k (.c0 a b IK 0)))
def BAh (a:SB) (b:As8) (k:AsB NAU AA):AsB NAU AA
 |.c0 d g f c=>mk (cond (c<10) (cond (Oq c d) ((a (ArA d c IK) g c 0 15).bind fun e=>cond (AsU f e) (k (.c0 d g (f++e) (NM c))) none) none) (Lh (b f)))
def iR:ArS NAU AA
 |0,_=>none
 |m+1,s=>BAh Zj Pj (iR m) s
def uG:Yo:=LAu Zj Pj (iR AX)
def HBQ:Arb:=fy u2 uG ru CS [KBA,KAU] Tryz.func343 GBQ BAh LAu iR
inductive PAU where
 |c0 (a:AA) (b:Int) (d:(List AA))
def IBQ:PAU->Asu
 |.c0 a b d=>(tdo Tryz.f327 464,[vs 0 a,vo 3 240,vi 4 b],[(240,.sl 9 d)])
def MAu (b:VN) (c:Yo) (k:AsB PAU (List AA)):Yp:=fun a=>k (.c0 a 0 [])
def CAh (a:VN) (b:Yo) (k:AsB PAU (List AA)):AsB PAU (List AA)
 |.c0 f c d=>mk (cond (c<4) ((a f c).bind fun e=>(b e c).bind fun g=>cond (AuZ d) (k (.c0 f (NM c) (d++[g]))) none) (some d))
def iV:ArS PAU (List AA)
 |0,_=>none
 |m+1,s=>CAh iP uG (iV m) s
def uH:Yp:=MAu iP uG (iV AX)
def LBA:Arb:=fy u1 uH CS UJ [JBA,HBQ] Tryz.func327 IBQ CAh MAu iV
def NAu (e:QZ) (h:As8):Yq:=fun f g c d=>mk ((e f).bind fun a=>(e g).bind fun b=>FH (AsU a b) (FH (Hr a b c) (FH (Hr (a++b) c d) (FH (AsU (((a++b)++c)++d) (Arl ⟨#[110]⟩)) (Lh (h ((((a++b)++c)++d)++(Arl ⟨#[110]⟩))))))))
def Xo:Yq:=NAu Nk Pj
def JBQ:Arb:=BF u4 Xo ASO CS [XR,KAU] Tryz.func352 NAu
inductive RAU where
 |c0 (a:Int) (b:(List AA)) (d:Int) (e:(List AA))
def KBQ:RAU->Asu
 |.c0 a b d e=>(tdo Tryz.f342 464,[vi 0 a,vr 1 9 b,vo 5 368,vi 6 d],[(368,.sl 9 e)])
def DAh (c:Yq) (k:AsB RAU (List AA)):SC:=fun a b=>k (.c0 a b 0 [])
def uK (a:Yq) (k:AsB RAU (List AA)):AsB RAU (List AA)
 |.c0 f c b d=>mk (cond (ArF (Aq2 b) (AuK c)) (cond (AtI (FN (2*b)) (AuK c)) (cond (AtI (Aq2 b) (AuK c)) ((a f b (c.getD (Ub (2*b)) (Arl IK)) (ArA c (Aq2 b) IK)).bind fun e=>cond (AuZ d) (k (.c0 f c (NM b) (d++[e]))) none) none) none) (some d))
def Xp:ArS RAU (List AA)
 |0,_=>none
 |m+1,s=>uK Xo (Xp m) s
def WR:SC:=DAh Xo (Xp AX)
def MBA:Arb:=fy u2 WR ASP UJ [JBQ] Tryz.func342 KBQ uK DAh Xp
inductive TAU where
 |c0 (a:(List AA)) (b:Int)
 |c1 (b:Int) (a:(List AA))
def LBQ:TAU->Asu
 |.c0 a b=>(tdo Tryz.f326 464,[vr 0 9 a,vi 3 b],[])
 |.c1 b a=>(tdo Tryz.f326 464,[vo 0 48,vi 3 b],[(48,.sl 9 a)])
def OAu (b:SC) (k:AsB TAU AA):pY:=fun a=>mk (cond ((AuK a) != 4) Wx (k (.c0 a 1)))
def EAh (a:SC) (k:AsB TAU AA):AsB TAU AA
 |.c0 d b=>mk (cond (b<=2) ((a b d).bind fun c=>k (.c1 (NM b) c)) (zM d))
 |.c1 b d=>mk (cond (b<=2) ((a b d).bind fun c=>k (.c1 (NM b) c)) (zM d))
def iW:ArS TAU AA
 |0,_=>none
 |m+1,s=>EAh WR (iW m) s
def FAh:pY:=OAu WR (iW AX)
def MBQ:Arb:=fy u1 FAh ASQ CS [MBA] Tryz.func326 LBQ EAh OAu iW
def PAu (b:Yp) (d:pY):As8:=fun c=>mk ((b c).bind fun a=>Lh (d a))
def uM:As8:=PAu uH FAh
def NBA:Arb:=BF u1 uM CS CS [LBA,MBQ] Tryz.func311 PAu
inductive iY where
 |c0 (a:AA) (b d:Int) (e:(List Int))
def NBQ:iY->Asu
 |.c0 a b d e=>(tdo Tryz.f344 2000,[vs 3 a,vo 4 304,vi 5 b,vi 6 d],[(304,.sl 3 e)])
def QAu (b:As8) (k:AsB iY (List Int)):ArT:=fun c=>(b c).bind fun a=>k (.c0 a 0 0 [])
def GAh (a:As8) (k:AsB iY (List Int)):AsB iY (List Int)
 |.c0 c e b d=>mk (cond (b<4) (cond (AtI b (Aq5 c)) (cond (AtI b (Aq5 c)) (cond (Ic ((d.length+2)*8)) (cond (AtI b (Aq5 c)) (cond (AtI b (Aq5 c)) (k (.c0 c (ArU (ArU (FN (e+30)) (eU (Auf c b))) ((Auf c b).tmod 16)) (NM b) (d++[eU (Auf c b),(Auf c b).tmod 16]))) none) none) none) none) none) (Ard (Ic ((d.length+2)*8)) (FI (d++[eU e,e.tmod 16]))))
def Zm:ArS iY (List Int)
 |0,_=>none
 |m+1,s=>GAh Pj (Zm m) s
def uN:ArT:=QAu Pj (Zm AX)
def OBQ:Arb:=fy u1 uN CS JL [KAU] Tryz.func344 NBQ GAh QAu Zm
inductive ig where
 |c0 (a:(List AA)) (b d:Int) (e:(List AA)) (f:(List Int))
def PBQ:ig->Asu
 |.c0 a b d e f=>(tdo Tryz.f328 2000,[vr 0 9 a,vi 1 b,vo 7 496,vo 8 560,vi 9 d],[(496,.sl 9 e),(560,.sl 3 f)])
def RAu (c:ArT) (f:SB) (k:AsB ig (List AA)):pq:=fun a e d=>mk (cond ((AuK a) != 10) (some []) ((c d).bind fun b=>k (.c0 a e 0 [] b)))
def SAu (a:ArT) (b:SB) (k:AsB ig (List AA)):AsB ig (List AA)
 |.c0 d h c f e=>mk (cond (c<10) (cond (Oq c d) (cond (AvD c e) ((b (ArA d c IK) h c 0 (Arc e c)).bind fun g=>cond (AuZ f) (k (.c0 d h (NM c) (f++[g]) e)) none) none) none) (some f))
def uT:ArS ig (List AA)
 |0,_=>none
 |m+1,s=>SAu uN Zj (uT m) s
def HAh:pq:=RAu uN Zj (uT AX)
def QBQ:Arb:=fy u3 HAh ASR UJ [OBQ,KBA] Tryz.func328 PBQ SAu RAu uT
inductive XAU where
 |c0 (a:(List AA)) (b d:Int) (e:(List AA))
 |c1 (b d:Int) (a e:(List AA))
def RBQ:XAU->Asu
 |.c0 a b d e=>(tdo Tryz.f330 976,[vr 0 9 a,vi 1 b,vo 5 368,vi 6 d],[(368,.sl 9 e)])
 |.c1 b d a e=>(tdo Tryz.f330 976,[vo 0 48,vi 1 b,vo 5 368,vi 6 d],[(48,.sl 9 a),(368,.sl 9 e)])
def TAu (d:As1) (e:SC) (k:AsB XAU (List AA)):pz:=fun a c=>mk (cond ((AuK a) != 4) (some []) ((d c 0 3).bind fun b=>cond (!b) (some []) (k (.c0 a c 1 []))))
def IAh (a:As1) (b:SC) (k:AsB XAU (List AA)):AsB XAU (List AA)
 |.c0 d c e f=>mk (cond (e<=2) (cond (OQ c) (cond (AtI (Nq c) (AuK d)) (cond (AuZ f) ((b e d).bind fun g=>k (.c1 (Au6 c) (NM e) g (f++[d.getD (Ub (c - 1)) (Arl IK)]))) none) none) (cond (AtI (NM c) (AuK d)) (cond (AuZ f) ((b e d).bind fun h=>k (.c1 (Au6 c) (NM e) h (f++[ArA d (NM c) IK]))) none) none)) (some f))
 |.c1 c e d f=>mk (cond (e<=2) (cond (OQ c) (cond (AtI (Nq c) (AuK d)) (cond (AuZ f) ((b e d).bind fun g=>k (.c1 (Au6 c) (NM e) g (f++[d.getD (Ub (c - 1)) (Arl IK)]))) none) none) (cond (AtI (NM c) (AuK d)) (cond (AuZ f) ((b e d).bind fun h=>k (.c1 (Au6 c) (NM e) h (f++[ArA d (NM c) IK]))) none) none)) (some f))
def uU:ArS XAU (List AA)
 |0,_=>none
 |m+1,s=>IAh AuU WR (uU m) s
def JAh:pz:=TAu AuU WR (uU AX)
def SBQ:Arb:=fy u2 JAh ru UJ [Jm,MBA] Tryz.func330 RBQ IAh TAu uU
def UAu (h:As1) (i:VN) (j:pq) (m:Yp) (n:pz):qA:=fun d a l=>mk ((h a 0 3).bind fun b=>cond (!b) (some (eH,false)) ((i d a).bind fun c=>(j c a l).bind fun e=>(m d).bind fun f=>(n f a).bind fun g=>some (⟨a,e,g⟩,true)))
def uV:qA:=UAu AuU iP HAh uH JAh
def TBQ:Arb:=BF u3 uV UH ASS [Jm,JBA,QBQ,LBA,SBQ] Tryz.func312 UAu
def VAu (i:As1) (j:Asp) (l:As8) (g:qA):qB:=fun c a m=>mk ((i a 0 15).bind fun e=>cond (!e) (some (⟨eH,IK,eH⟩,false)) ((j c (Y7 a)).bind fun b=>(l b).bind fun d=>(g b (a.tmod 4) m).bind fun f=>cond (AsU c O8) ((g (c++O8) (Y7 a) d).bind fun h=>some (⟨h.1,d,f.1⟩,true)) none))
def KAh:qB:=VAu AuU YAg uM uV
def UBQ:Arb:=BF u3 KAh UH ASU [Jm,DBQ,NBA,TBQ] Tryz.func295 VAu
inductive Zo where
 |c0 (b:Int) (a:Hu)
 |c1 (d:Int) (a:Hu)
def VBQ:Zo->Asu
 |.c0 b a=>(tdo Tryz.f331 464,[vp 1 64,vi 3 b],[(64,.var [li a.GU,.BH 9 a.FK,.BH 9 a.F8])])
 |.c1 d a=>(tdo Tryz.f331 976,[vp 1 64,vi 4 d],[(64,.var [li a.GU,.BH 9 a.FK,.BH 9 a.F8])])
def WAu (c:As1) (k:AsB Zo Bool):Yr:=fun a=>mk ((c a.GU 0 3).bind fun b=>cond (!b) (some false) (cond ((AuK a.FK) != 10) (some false) (cond ((AuK a.F8) != 2) (some false) (k (.c0 0 a)))))
def uY (a:As1) (k:AsB Zo Bool):AsB Zo Bool
 |.c0 c b=>mk (cond (ArF c (AuK b.FK)) (cond (Oq c b.FK) (cond ((Aq5 (ArA b.FK c IK)) != 4) (some false) (k (.c0 (NM c) b))) none) (k (.c1 0 b)))
 |.c1 b c=>mk (cond (ArF b (AuK c.F8)) (cond (Oq b c.F8) (cond ((Aq5 (ArA c.F8 b IK)) != 4) (some false) (k (.c1 (NM b) c))) none) (some true))
def WS:ArS Zo Bool
 |0,_=>none
 |m+1,s=>uY AuU (WS m) s
def uX:Yr:=WAu AuU (WS AX)
def WBQ:Arb:=fy u1 uX ACb GK [Jm] Tryz.func331 VBQ uY WAu WS
inductive Zp where
 |c0 (a:AA) (d:Int) (b:Hu)
 |c1 (a:AA) (e:Int) (b:Hu)
def XBQ:Zp->Asu
 |.c0 b d a=>(tdo Tryz.f313 976,[vp 1 64,vs 4 b,vi 5 d],[(64,.var [li a.GU,.BH 9 a.FK,.BH 9 a.F8])])
 |.c1 b e a=>(tdo Tryz.f313 2000,[vp 1 64,vs 4 b,vi 6 e],[(64,.var [li a.GU,.BH 9 a.FK,.BH 9 a.F8])])
def XAu (d:Yr) (e:QZ) (k:AsB Zp (AA×Bool)):qC:=fun a=>mk ((d a).bind fun b=>cond (!b) (LZ (IK,false)) ((e a.GU).bind fun c=>k (.c0 c 0 a)))
def jA (a:Yr) (b:QZ) (k:AsB Zp (AA×Bool)):AsB Zp (AA×Bool)
 |.c0 e c d=>mk (cond (c<10) (cond (Oq c d.FK) (cond (AsU e (ArA d.FK c IK)) (k (.c0 (e++(ArA d.FK c IK)) (NM c) d)) none) none) (k (.c1 e 0 d)))
 |.c1 e c d=>mk (cond (UA c) (cond (Oq c d.F8) (cond (AsU e (ArA d.F8 c IK)) (k (.c1 (e++(ArA d.F8 c IK)) (NM c) d)) none) none) (LZ (e,true)))
def ArD:ArS Zp (AA×Bool)
 |0,_=>none
 |m+1,s=>jA uX Nk (ArD m) s
def LAh:qC:=XAu uX Nk (ArD AX)
def YBQ:Arb:=fy u1 LAh ACb Hw [WBQ,XR] Tryz.func313 XBQ jA XAu ArD
def YAu (d:qC):qE:=fun a=>mk ((d a.PN).bind fun b=>(d a.PO).bind fun c=>cond (!b.2) (LZ (IK,false)) (cond (!c.2) (LZ (IK,false)) (cond ((Aq5 a.PI) != 4) (LZ (IK,false)) (Nc (AsU b.1 a.PI) (Nc (AsU (b.1++a.PI) c.1) (LZ ((b.1++a.PI)++c.1,true)))))))
def MAh:qE:=YAu LAh
def ZBQ:Arb:=BF u1 MAh ASV Hw [YBQ] Tryz.func296 YAu
def ZAu (i:YAd) (l:dU) (m:qB) (o:qE) (g:yw) (d:dV):SE:=fun j n a=>mk ((i j a).bind fun b=>cond (b == 16) (AsJ (l 1 dw)) ((m (AtN a) b n.fText).bind fun e=>(o e.1).bind fun c=>cond (b == a.fNext) (cond ((FN (a.fNext+3)) > 16) ((g ⟨a.fId,a.Aa,Tf a,Arh a,ArW a,As4 a,AtN a,16⟩).bind fun f=>AsJ (d f c.1)) ((g ⟨a.fId,a.Aa,Tf a,Arh a,ArW a,As4 a,AtN a,FN (a.fNext+3)⟩).bind fun h=>AsJ (d h c.1))) (AsJ (d [] c.1))))
def NAh:SE:=ZAu uD qU KAh MAh NAg qV
def AkA:Arb:=BF u3 NAh ACc Nw [IBA,AAU,UBQ,ZBQ,UAt,DAU] Tryz.func280 ZAu
inductive CAV where
 |c0 (a:AA) (b:Int) (d:(List Int))
 |c1 (a:AA) (b e f:Int) (d:(List Int))
def BBR:CAV->Asu
 |.c0 a b d=>(tdo Tryz.f353 464,[vs 0 a,vo 3 240,vi 4 b],[(240,.sl 245 d)])
 |.c1 a b e f d=>(tdo Tryz.f353 119376,[vs 0 a,vo 3 240,vi 4 b,(5,[.one (.int .u64 e)]),vi 6 f],[(240,.sl 245 d)])
def AJn (k:AsB CAV (List Int)):ArT:=fun a=>k (.c0 a 0 [])
def uf (k:AsB CAV (List Int)):AsB CAV (List Int)
 |.c0 b a c=>mk (cond (GN (FN (a+8)) (Aq5 b)) (k (.c1 b a 0 7 c)) (FI c))
 |.c1 c b e a d=>mk (cond (Aue a) (cond (AtI (D7 b a) (Aq5 c)) (k (.c1 c b (Atq ((Atq (e*256))+(Atq (bt c (D7 b a))))) (Nq a) d)) none) (cond (QC d) (k (.c0 c (FN (b+8)) (d++[e]))) none))
def Xq:ArS CAV (List Int)
 |0,_=>none
 |m+1,s=>uf (Xq m) s
def jC:ArT:=AJn (Xq AX)
def OBA:Arb:=fy u1 jC CS sD [] Tryz.func353 BBR uf AJn Xq
inductive EAV where
 |c0 (a b d:Int) (e:(List Int))
def CBR:EAV->Asu
 |.c0 a b d e=>(tdo Tryz.f356 2000,[vo 1 112,vi 2 a,vi 3 b,vi 4 d],[(112,.sl 3 e)])
def PBA (k:AsB EAV (List Int)):Au9:=mk (k (.c0 1 0 0 (Q7 (25:Int))))
def QBA (k:AsB EAV (List Int)):AsB EAV (List Int)
 |.c0 c b a d=>mk (cond (a<24) (cond (Jc (KX c b) d) (k (.c0 b (eX c b) (NM a) (d.set (Ub (KX c b)) ((Au6 (FN ((NM a)*(FN (a+2))))).tmod 64)))) none) (FI d))
def BAv:ArS EAV (List Int)
 |0,_=>none
 |m+1,s=>QBA (BAv m) s
def OAh:Au9:=PBA (BAv AX)
def DBR:Arb:=fy u0 OAh Xb JL [] Tryz.func356 CBR QBA PBA BAv
inductive FAV where
 |c0 (a b:Int) (d:(List Int))
 |c1 (a b:Int) (e f g:Int) (d:(List Int))
def EBR:FAV->Asu
 |.c0 a b d=>(tdo Tryz.f357 976,[vo 1 112,vi 2 a,vi 3 b],[(112,.sl 245 d)])
 |.c1 a b e f g d=>(tdo Tryz.f357 500944,[vo 1 112,vi 2 a,vi 3 b,(4,[.one (.int .u64 e)]),(5,[.one (.int .u64 f)]),vi 6 g],[(112,.sl 245 d)])
def CAv (k:AsB FAV (List Int)):Au9:=k (.c0 1 0 [])
def RBA (k:AsB FAV (List Int)):AsB FAV (List Int)
 |.c0 c a b=>mk (cond (a<24) (k (.c1 c a 0 1 0 b)) (FI b))
 |.c1 b e f a d c=>mk (cond (d<7) (cond (OQ b) (cond ((FN (b*2))>=256) (k (.c1 (VAe ((FN (b*2)) - 256)) e (Atq (f+a)) (Atq ((Atq (a*a))*2)) (NM d) c)) (k (.c1 (FN (b*2)) e (Atq (f+a)) (Atq ((Atq (a*a))*2)) (NM d) c))) (cond ((FN (b*2))>=256) (k (.c1 (VAe ((FN (b*2)) - 256)) e f (Atq ((Atq (a*a))*2)) (NM d) c)) (k (.c1 (FN (b*2)) e f (Atq ((Atq (a*a))*2)) (NM d) c)))) (cond (QC c) (k (.c0 b (NM e) (c++[f]))) none))
def DAv:ArS FAV (List Int)
 |0,_=>none
 |m+1,s=>RBA (DAv m) s
def uh:Au9:=CAv (DAv AX)
def FBR:Arb:=fy u0 uh Xb sD [] Tryz.func357 EBR RBA CAv DAv
inductive HAV where
 |c0 (a b:Int) (d e:Int)
def GBR:HAV->Asu
 |.c0 a b d e=>(tdo Tryz.f359 464,[(0,[.one (.int .u64 a)]),vi 1 b,(5,[.one (.int .u64 d)]),vi 6 e],[])
def EAv (k:AsB HAV Int):AsW:=fun a b=>k (.c0 a b 1 0)
def PAh (k:AsB HAV Int):AsB HAV Int
 |.c0 b c a d=>mk (cond (ArF d c) (k (.c0 b c (Atq (a*2)) (NM d))) (cond (Aup c) (some b) (cond (!(Aup a)) (cond (!(Aup (Atq ((Atq ((9223372036854775808:Int).tdiv a))*2)))) (some (Atq ((Atq (b*a))+(Atq (b.tdiv (Atq ((Atq ((9223372036854775808:Int).tdiv a))*2))))))) none) none)))
def jE:ArS HAV Int
 |0,_=>none
 |m+1,s=>PAh (jE m) s
def jD:AsW:=EAv (jE AX)
def HBR:Arb:=fy u2 jD ASW sF [] Tryz.func359 GBR PAh EAv jE
inductive IAV where
 |c0 (d e:(List Int)) (a j:Int) (f:(List Int))
 |c1 (d e:(List Int)) (a g:Int) (f b:(List Int))
 |c2 (d e:(List Int)) (a g:Int) (l n:Int) (f b:(List Int))
 |c3 (a h:Int) (b i:(List Int))
 |c4 (a h o:Int) (b i:(List Int))
def IBR:IAV->Asu
 |.c0 d e a j f=>(tdo Tryz.f358 464,[vr 0 245 d,vr 1 3 e,(2,[.one (.int .u64 a)]),vo 7 496,vi 8 j],[(496,.sl 245 f)])
 |.c1 d e a g f b=>(tdo Tryz.f358 2000,[vr 0 245 d,vr 1 3 e,(2,[.one (.int .u64 a)]),vo 7 496,vo 9 624,vi 10 g],[(496,.sl 245 f),(624,.sl 245 b)])
 |.c2 d e a g l n f b=>(tdo Tryz.f358 256304,[vr 0 245 d,vr 1 3 e,(2,[.one (.int .u64 a)]),vo 7 496,vo 9 624,vi 10 g,(11,[.one (.int .u64 l)]),vi 12 n],[(496,.sl 245 f),(624,.sl 245 b)])
 |.c3 a h b i=>(tdo Tryz.f358 8144,[(2,[.one (.int .u64 a)]),vo 9 624,vo 13 880,vi 14 h],[(624,.sl 245 b),(880,.sl 245 i)])
 |.c4 a h o b i=>(tdo Tryz.f358 521360,[(2,[.one (.int .u64 a)]),vo 9 624,vo 13 880,vi 14 h,vi 15 o],[(624,.sl 245 b),(880,.sl 245 i)])
def FAv (d:AsW) (k:AsB IAV (List Int)):ZAd:=fun a b c=>k (.c0 a b c 0 [0,0,0,0,0])
def TF (a:AsW) (k:AsB IAV (List Int)):AsB IAV (List Int)
 |.c0 c e f b d=>mk (cond (b<5) (cond (AvD b c) (cond (Jc (b+5) c) (cond (Jc (b+10) c) (cond (Jc (b+15) c) (cond (Jc (b+20) c) (cond (AvD b d) (k (.c0 c e f (NM b) (d.set (IZ b) (Atq (Arj Art (Atq (Arj Art (Atq (Arj Art (Atq (Arj Art (Arc c b) (Jd c (b+5)))) (Jd c (b+10)))) (Jd c (b+15)))) (Jd c (b+20))))))) none) none) none) none) none) none) (k (.c1 c e f 0 d (Q7 (25:Int)))))
 |.c1 g h e b c f=>mk (cond (b<5) (cond (AtI (AvG (FN (b+4))) (NZ c)) (cond (AtI (AvG (NM b)) (NZ c)) ((a (Arc c (AvG (NM b))) 1).bind fun d=>k (.c2 g h e b (Atq (Arj Art (Arc c (AvG (FN (b+4)))) d)) 0 c f)) none) none) (k (.c3 e 0 f (Q7 (25:Int)))))
 |.c2 d e i c h b j f=>mk (cond (b<5) (cond (Jc (KX c b) d) (cond (Jc (KX c b) e) ((a (Atq (Arj Art (Jd d (KX c b)) h)) (Jd e (KX c b))).bind fun g=>cond (Jc (KX b (eX c b)) f) (k (.c2 d e i c h (NM b) j (f.set (Ub (KX b (eX c b))) g))) none) none) none) (k (.c1 d e i (NM c) j f)))
 |.c3 d c e b=>mk (cond (c<5) (k (.c4 d c 0 e b)) (Ard (UC b) (Ard (UC b) (FI (b.set (IZ La) (Atq (Arj Art (Arc b La) d)))))))
 |.c4 f c b d e=>mk (cond (b<5) (cond (Jc (KX c b) d) (cond (Jc ((AvG (NM c))+(FN (5*b))) d) (cond (Jc ((AvG (FN (c+2)))+(FN (5*b))) d) (cond (Jc (KX c b) e) (k (.c4 f c (NM b) d (e.set (Ub (KX c b)) (Atq (Arj Art (Jd d (KX c b)) (Atq (O4 Art (Atq (18446744073709551615 - (Jd d ((AvG (NM c))+(FN (5*b)))))) (Jd d ((AvG (FN (c+2)))+(FN (5*b))))))))))) none) none) none) none) (k (.c3 f (NM c) d e)))
def NH:ArS IAV (List Int)
 |0,_=>none
 |m+1,s=>TF jD (NH m) s
def uj:ZAd:=FAv jD (NH AX)
def JBR:Arb:=fy u3 uj AcJ sD [HBR] Tryz.func358 IBR TF FAv NH
inductive KAV where
 |c0 (a:Int) (b d e:(List Int))
def KBR:KAV->Asu
 |.c0 a b d e=>(tdo Tryz.f354 976,[vo 0 48,vo 3 240,vo 4 304,vi 5 a],[(48,.sl 245 b),(240,.sl 3 d),(304,.sl 245 e)])
def GAv (c d:Au9) (f:ZAd) (k:AsB KAV (List Int)):Ud:=fun e=>c.bind fun a=>d.bind fun b=>k (.c0 0 e a b)
def HAv (a b:Au9) (c:ZAd) (k:AsB KAV (List Int)):AsB KAV (List Int)
 |.c0 d g h e=>mk (cond (d<24) (cond (AvD d e) ((c g h (Arc e d)).bind fun f=>k (.c0 (NM d) f h e)) none) (FI g))
def uq:ArS KAV (List Int)
 |0,_=>none
 |m+1,s=>HAv OAh uh uj (uq m) s
def jH:Ud:=GAv OAh uh uj (uq AX)
def SBA:Arb:=fy u1 jH sD sD [DBR,FBR,JBR] Tryz.func354 KBR HAv GAv uq
inductive MAV where
 |c0 (a:(List Int)) (b:Int) (d:(List Int))
 |c1 (a:(List Int)) (b e f:Int) (d:(List Int))
def LBR:MAV->Asu
 |.c0 a b d=>(tdo Tryz.f355 464,[vr 0 245 a,vo 3 240,vi 4 b],[(240,.sl 5 d)])
 |.c1 a b e f d=>(tdo Tryz.f355 59696,[vr 0 245 a,vo 3 240,vi 4 b,(5,[.one (.int .u64 e)]),vi 6 f],[(240,.sl 5 d)])
def IAv (k:AsB MAV AA):Ate:=fun a=>k (.c0 a 0 [])
def jJ (k:AsB MAV AA):AsB MAV AA
 |.c0 b a c=>mk (cond (ArF a (NZ b)) (cond (AvD a b) (k (.c1 b a (Arc b a) 0 c)) none) (Ll c))
 |.c1 c d e b a=>mk (cond (b<8) (cond (Qo a) (k (.c1 c d (Atq (e.tdiv 256)) (NM b) (a++[w8 (e.tmod 256)]))) none) (k (.c0 c (NM d) a)))
def WT:ArS MAV AA
 |0,_=>none
 |m+1,s=>jJ (WT m) s
def jI:Ate:=IAv (WT AX)
def TBA:Arb:=fy u1 jI AcK CS [] Tryz.func355 LBR jJ IAv WT
inductive NAV where
 |c0 (a:Int) (b d:(List Int))
 |c1 (a e:Int) (b d:(List Int))
 |c2 (a e f:Int) (b d g:(List Int))
def MBR:NAV->Asu
 |.c0 a b d=>(tdo Tryz.f347 480,[vi 1 a,vo 7 496,vo 8 560],[(496,.sl 245 b),(560,.sl 5 d)])
 |.c1 a e b d=>(tdo Tryz.f347 4048,[vi 1 a,vo 7 496,vo 8 560,vi 9 e],[(496,.sl 245 b),(560,.sl 5 d)])
 |.c2 a e f b d g=>(tdo Tryz.f347 1036880,[vi 1 a,vo 7 496,vo 8 560,vi 9 e,vo 10 688,vi 11 f],[(496,.sl 245 b),(560,.sl 5 d),(688,.sl 245 g)])
def JAv (d:ArT) (e:Ud) (f:Ate) (k:AsB NAV AA):qF:=fun a b c=>mk (cond (QB a) (cond (Qo (LJ a)) (k (.c0 b (Q7 (25:Int)) ((LJ a)++[c]))) none) none)
def Xr (a:ArT) (b:Ud) (c:Ate) (k:AsB NAV AA):AsB NAV AA
 |.c0 e f d=>mk (cond (!(Aup e)) (cond (((NZ d).tmod e) != 0) (cond (Qo d) (k (.c0 e f (d++[La]))) none) (cond (Jc ((NZ d) - 1) d) (cond (Jc ((NZ d) - 1) d) (k (.c1 e 0 f (TAq d))) none) none)) none)
 |.c1 f d h e=>mk (cond (ArF d (NZ e)) (cond (AuB d (D7 d f) (NZ e)) ((a (ofBytes ((e.drop (IZ d)).take ((Ub (d+f)) - (IZ d))))).bind fun g=>k (.c2 f d 0 h e g)) none) (Lh (c h)))
 |.c2 g h d e i f=>mk (cond (ArF d (NZ f)) (cond (AvD d e) (cond (AvD d f) (cond (AvD d e) (k (.c2 g h (NM d) (e.set (IZ d) (Atq (Arj Art (Arc e d) (Arc f d)))) i f)) none) none) none) ((b e).bind fun j=>k (.c1 g (D7 h g) j i)))
def Atf:ArS NAV AA
 |0,_=>none
 |m+1,s=>Xr jC jH jI (Atf m) s
def uy:qF:=JAv jC jH jI (Atf AX)
def NBR:Arb:=fy u3 uy ASX CS [OBA,SBA,TBA] Tryz.func347 MBR Xr JAv Atf
def KAv (b:qF):Asb:=fun c=>(b c 168 31).bind fun a=>some ⟨a,0⟩
def jP:Asb:=KAv uy
def UBA:Arb:=BF u1 jP CS ASY [NBR] Tryz.func332 KAv
def LAv (d:ArT) (e:Ud) (f:Ate):As8:=fun a=>mk (cond ((Aq5 a) != 200) (some a) ((d a).bind fun b=>(e b).bind fun c=>Lh (f c)))
def uz:As8:=LAv jC jH jI
def OBR:Arb:=BF u1 uz CS CS [OBA,SBA,TBA] Tryz.func348 LAv
inductive QAV where
 |c0 (a:Int) (b d:FY) (e:(List Int))
def PBR:QAV->Asu
 |.c0 d a b e=>(tdo Tryz.f333 480,[vi 1 d,vp 2 128,vp 4 256,vo 6 432],[(128,.var [.str a.FZ,li a.D8]),(256,.var [.str b.FZ,li b.D8]),(432,.sl 5 e)])
def MAv (c:As1) (f:As8) (k:AsB QAV (FY×AA)):VP:=fun a d=>mk ((c d 0 4000).bind fun b=>cond (!b) (some (a,IK)) (cond ((Aq5 a.FZ) != 200) (some (a,IK)) ((c a.D8 0 168).bind fun e=>cond (!e) (some (a,IK)) (k (.c0 d a ⟨IK,0⟩ [])))))
def NAv (a:As1) (b:As8) (k:AsB QAV (FY×AA)):AsB QAV (FY×AA)
 |.c0 e c g d=>mk (cond (ArF (NZ d) e) (cond (c.D8 == 168) ((b c.FZ).bind fun f=>cond (Pn > (ArU e (NZ d))) (cond (((decide (La<=La)) && (AuS (FN (0+(ArU e (NZ d)))))) && (GN (FN (0+(ArU e (NZ d)))) (Aq5 f))) (cond (QB (Jl f La (0+(ArU e (NZ d))))) (cond (qP d (Jl f La (0+(ArU e (NZ d))))) (k (.c0 e ⟨f,FN (0+(ArU e (NZ d)))⟩ g (d++(LJ (Jl f La (0+(ArU e (NZ d)))))))) none) none) none) (cond (((decide (La<=La)) && (AuS (FN (0+Pn)))) && (GN (FN (0+Pn)) (Aq5 f))) (cond (QB (Jl f La (0+Pn))) (cond (qP d (Jl f La (0+Pn))) (k (.c0 e ⟨f,FN (0+Pn)⟩ g (d++(LJ (Jl f La (0+Pn)))))) none) none) none)) (cond ((Qr c) > (ArU e (NZ d))) (cond (AuB c.D8 (D7 c.D8 (ArU e (NZ d))) (Aq5 c.FZ)) (cond (QB (Jl c.FZ c.D8 (c.D8+(ArU e (NZ d))))) (cond (qP d (Jl c.FZ c.D8 (c.D8+(ArU e (NZ d))))) (k (.c0 e ⟨c.FZ,D7 c.D8 (ArU e (NZ d))⟩ g (d++(LJ (Jl c.FZ c.D8 (c.D8+(ArU e (NZ d)))))))) none) none) none) (cond (AuB c.D8 (D7 c.D8 (Qr c)) (Aq5 c.FZ)) (cond (QB (Jl c.FZ c.D8 (c.D8+(Qr c)))) (cond (qP d (Jl c.FZ c.D8 (c.D8+(Qr c)))) (k (.c0 e ⟨c.FZ,D7 c.D8 (Qr c)⟩ g (d++(LJ (Jl c.FZ c.D8 (c.D8+(Qr c))))))) none) none) none))) (some (c,ofBytes d)))
def jQ:ArS QAV (FY×AA)
 |0,_=>none
 |m+1,s=>NAv AuU uz (jQ m) s
def Zw:VP:=MAv AuU uz (jQ AX)
def VBA:Arb:=fy u2 Zw ASZ ASa [Jm,OBR] Tryz.func333 PBR NAv MAv jQ
inductive RAV where
 |c0 (b:AA) (d:Int) (e:FY) (a:(List Int))
 |c1 (a:(List Int))
def QBR:RAV->Asu
 |.c0 d e b a=>(tdo Tryz.f314 2000,[vo 7 496,vp 8 512,vs 9 d,vi 10 e],[(512,.var [.str b.FZ,li b.D8]),(496,.sl 3 a)])
 |.c1 a=>(tdo Tryz.f314 2016,[vo 7 496],[(496,.sl 3 a)])
def OAv (d:QZ) (h:Asb) (i:VP) (k:AsB RAV (List Int)):Yt:=fun b f g=>mk ((d f).bind fun a=>cond (AsU b a) ((d g).bind fun c=>cond (Hr b a c) ((h ((b++a)++c)).bind fun e=>k (.c0 IK 0 e [])) none) none)
def QAh (a:QZ) (b:Asb) (c:VP) (k:AsB RAV (List Int)):AsB RAV (List Int)
 |.c0 g d h f=>mk (cond (d<4000) (cond (RF (NZ f)) (cond (Aup (ML d)) ((c h 168).bind fun e=>cond (AtI (ML d) (Aq5 e.2)) (cond (AtI (NM (ML d)) (Aq5 e.2)) (cond (AtI (NM (ML d)) (Aq5 e.2)) (cond (AtI (FN ((ML d)+2)) (Aq5 e.2)) (cond (Y8 (dY e d)) (cond (QC f) (cond (Y8 (zC e d)) (cond (RF (NZ (f++[dY e d]))) (cond (QC (f++[dY e d])) (k (.c0 e.2 (NM d) e.1 ((f++[dY e d])++[zC e d]))) none) (k (.c0 e.2 (NM d) e.1 (f++[dY e d])))) (k (.c0 e.2 (NM d) e.1 (f++[dY e d])))) none) (cond (Y8 (zC e d)) (cond (RF (NZ f)) (cond (QC f) (k (.c0 e.2 (NM d) e.1 (f++[zC e d]))) none) (k (.c0 e.2 (NM d) e.1 f))) (k (.c0 e.2 (NM d) e.1 f)))) none) none) none) none) (cond (AtI (ML d) (Aq5 g)) (cond (AtI (NM (ML d)) (Aq5 g)) (cond (AtI (NM (ML d)) (Aq5 g)) (cond (AtI (FN ((ML d)+2)) (Aq5 g)) (cond (Y8 (dh g d)) (cond (QC f) (cond (Y8 (zD g d)) (cond (RF (NZ (f++[dh g d]))) (cond (QC (f++[dh g d])) (k (.c0 g (NM d) h ((f++[dh g d])++[zD g d]))) none) (k (.c0 g (NM d) h (f++[dh g d])))) (k (.c0 g (NM d) h (f++[dh g d])))) none) (cond (Y8 (zD g d)) (cond (RF (NZ f)) (cond (QC f) (k (.c0 g (NM d) h (f++[zD g d]))) none) (k (.c0 g (NM d) h f))) (k (.c0 g (NM d) h f)))) none) none) none) none)) (k (.c1 f))) (k (.c1 f)))
 |.c1 d=>mk (cond (RF (NZ d)) (cond (QC d) (k (.c1 (d++[La]))) none) (FI d))
def Ug:ArS RAV (List Int)
 |0,_=>none
 |m+1,s=>QAh Nk jP Zw (Ug m) s
def WU:Yt:=OAv Nk jP Zw (Ug AX)
def RBR:Arb:=fy u3 WU rW JL [XR,UBA,VBA] Tryz.func314 QBR QAh OAv Ug
inductive SAV where
 |c0 (a:AA) (b:Int) (d:(List (List Int)))
 |c1 (a:AA) (b e:Int) (d:(List (List Int)))
def SBR:SAV->Asu
 |.c0 a b d=>(tdo Tryz.f297 464,[vs 0 a,vo 3 240,vi 4 b],[(240,.sl 100 d)])
 |.c1 a b e d=>(tdo Tryz.f297 29840,[vs 0 a,vo 3 240,vi 4 b,vi 5 e],[(240,.sl 100 d)])
def PAv (b:Yt) (k:AsB SAV (List (List Int))):AG7:=fun a=>k (.c0 a 0 [])
def QAv (a:Yt) (k:AsB SAV (List (List Int))):AsB SAV (List (List Int))
 |.c0 d b c=>mk (cond (UA b) (k (.c1 d b 0 c)) (some c))
 |.c1 c d b e=>mk (cond (UA b) ((a c b d).bind fun f=>cond (XP e) (k (.c1 c d (NM b) (e++[f]))) none) (k (.c0 c (NM d) e)))
def RAh:ArS SAV (List (List Int))
 |0,_=>none
 |m+1,s=>QAv WU (RAh m) s
def vC:AG7:=PAv WU (RAh AX)
def TBR:Arb:=fy u1 vC CS ACS [RBR] Tryz.func297 SBR QAv PAv RAh
def RAv (e:As1) (f:Asb) (h:VP):Yu:=fun g b=>mk ((e b 0 4000).bind fun a=>cond (!a) (LZ (IK,false)) ((f g).bind fun c=>(h c b).bind fun d=>LZ (d.2,true)))
def jR:Yu:=RAv AuU jP Zw
def UBR:Arb:=BF u2 jR QM Hw [Jm,UBA,VBA] Tryz.func318 RAv
inductive UAV where
 |c0 (a:AA) (b:Int) (d:(List Int))
def VBR:UAV->Asu
 |.c0 a b d=>(tdo Tryz.f299 976,[vo 5 368,vs 6 a,vi 8 b],[(368,.sl 3 d)])
def SAv (d:QZ) (f:Yu) (k:AsB UAV (List Int)):Uy:=fun b e=>mk ((d e).bind fun a=>cond (AsU b a) ((f (b++a) 128).bind fun c=>k (.c0 c.1 0 [])) none)
def TAv (a:QZ) (b:Yu) (k:AsB UAV (List Int)):AsB UAV (List Int)
 |.c0 d c e=>mk (cond (RF c) (cond (AtI (Au6 c) (Aq5 d)) (cond (OQ c) (cond (QC e) (k (.c0 d (NM c) (e++[(YAq (eU (Auf d (Au6 c))) (Au6 (eU (Auf d (Au6 c))))).tmod 3329]))) none) (cond (QC e) (k (.c0 d (NM c) (e++[(YAq (Auf d (Au6 c)) (Au6 (Auf d (Au6 c)))).tmod 3329]))) none)) none) (FI e))
def jS:ArS UAV (List Int)
 |0,_=>none
 |m+1,s=>TAv Nk jR (jS m) s
def WV:Uy:=SAv Nk jR (jS AX)
def WBR:Arb:=fy u2 WV QM JL [XR,UBR] Tryz.func299 VBR TAv SAv jS
inductive VAV where
 |c0 (a:(List Int)) (b:Int)
def XBR:VAV->Asu
 |.c0 a b=>(tdo Tryz.f315 464,[vr 0 3 a,vi 3 b],[])
def UAv (b:As1) (k:AsB VAV Bool):AuJ:=fun a=>mk (cond ((NZ a) != 256) (some false) (k (.c0 a 0)))
def SAh (a:As1) (k:AsB VAV Bool):AsB VAV Bool
 |.c0 c b=>mk (cond (ArF b (NZ c)) (cond (AvD b c) ((a (Arc c b) 0 3328).bind fun d=>cond (!d) (some false) (k (.c0 c (NM b)))) none) (some true))
def jU:ArS VAV Bool
 |0,_=>none
 |m+1,s=>SAh AuU (jU m) s
def Ui:AuJ:=UAv AuU (jU AX)
def TAh:Arb:=fy u1 Ui VZ GK [Jm] Tryz.func315 XBR SAh UAv jU
inductive WAV where
 |c0 (a b d:Int)
def YBR:WAV->Asu
 |.c0 a b d=>(tdo Tryz.f317 2000,[vi 0 a,vi 3 b,vi 4 d],[])
def VAv (k:AsB WAV Int):Mc:=fun a=>mk (cond (JK (a.tmod 128)) (k (.c0 (FN ((a.tmod 128)+128)) 0 0)) (k (.c0 (a.tmod 128) 0 0)))
def WAv (k:AsB WAV Int):AsB WAV Int
 |.c0 b c a=>mk (cond (a<7) (k (.c0 (Au6 b) (D7 (FN (2*c)) (b.tmod 2)) (NM a))) (some c))
def vF:ArS WAV Int
 |0,_=>none
 |m+1,s=>WAv (vF m) s
def Zz:Mc:=VAv (vF AX)
def WBA:Arb:=fy u1 Zz E5 E5 [] Tryz.func317 YBR WAv VAv vF
inductive YAV where
 |c0 (a b d:Int)
def ZBR:YAV->Asu
 |.c0 a b d=>(tdo Tryz.f316 2016,[vi 0 a,vi 1 b,vi 5 d],[])
def XAv (d:As1) (k:AsB YAV Int):AsW:=fun b a=>mk ((d a 0 1000000000).bind fun c=>cond (!c) (some 0) (cond (JK (b.tmod 3329)) (k (.c0 (FN ((b.tmod 3329)+3329)) a 1)) (k (.c0 (b.tmod 3329) a 1))))
def YAv (a:As1) (k:AsB YAV Int):AsB YAV Int
 |.c0 b c d=>mk (cond (Rn c) (cond (OQ c) (k (.c0 (Y2 (b*b)) (Au6 c) (dZ d b))) (k (.c0 (Y2 (b*b)) (Au6 c) d))) (some d))
def vG:ArS YAV Int
 |0,_=>none
 |m+1,s=>YAv AuU (vG m) s
def Z4:AsW:=XAv AuU (vG AX)
def XBA:Arb:=fy u2 Z4 rU E5 [Jm] Tryz.func316 ZBR YAv XAv vG
inductive AAk where
 |c0 (a b:Int) (d:(List Int))
 |c1 (a b e:Int) (d:(List Int))
 |c2 (a b:Int) (e f g:Int) (d:(List Int))
def Aka:AAk->Asu
 |.c0 a b d=>(tdo Tryz.f298 2000,[vo 3 240,vi 4 a,vi 5 b],[(240,.sl 3 d)])
 |.c1 a b e d=>(tdo Tryz.f298 128144,[vo 3 240,vi 4 a,vi 5 b,vi 6 e],[(240,.sl 3 d)])
 |.c2 a b e f g d=>(tdo Tryz.f298 32805488,[vo 3 240,vi 4 a,vi 5 b,vi 6 e,vi 7 f,vi 8 g],[(240,.sl 3 d)])
def ZAv (c:AuJ) (d:Mc) (e:AsW) (k:AsB AAk (List Int)):Ud:=fun a=>mk ((c a).bind fun b=>cond (!b) (FI []) (cond (Ic ((0+a.length)*8)) (k (.c0 1 128 a)) none))
def Z5 (a:AuJ) (b:Mc) (c:AsW) (k:AsB AAk (List Int)):AsB AAk (List Int)
 |.c0 f d e=>mk (cond (d>=2) (k (.c1 f d 0 e)) (FI e))
 |.c1 e h d i=>mk (cond (RF d) ((b e).bind fun f=>(c 17 f).bind fun g=>k (.c2 (NM e) h d g d i)) (k (.c0 e (Au6 h) i)))
 |.c2 i e h g d f=>mk (cond (ArF d (D7 h e)) (cond (Jc (d+e) f) (cond (AvD d f) (cond (Jc (d+e) f) (cond (AvD d (y9 f d e g)) (cond (AvD d (y9 f d e g)) (k (.c2 i e h g (NM d) ((y9 f d e g).set (IZ d) ((D7 (Arc (y9 f d e g) d) (dZ g (Jd f (d+e)))).tmod 3329)))) none) none) none) none) none) (k (.c1 i e (D7 h (FN (2*e))) f)))
def Pm:ArS AAk (List Int)
 |0,_=>none
 |m+1,s=>Z5 Ui Zz Z4 (Pm m) s
def Xw:Ud:=ZAv Ui Zz Z4 (Pm AX)
def YBA:Arb:=fy u1 Xw VZ JL [TAh,WBA,XBA] Tryz.func298 Aka Z5 ZAv Pm
inductive BAW where
 |c0 (a b d:Int)
def BBS:BAW->Asu
 |.c0 a b d=>(tdo Tryz.f334 464,[vi 0 a,vi 3 b,vi 4 d],[])
def AKQ (k:AsB BAW Int):Mc:=fun a=>k (.c0 a 1 0)
def UAh (k:AsB BAW Int):AsB BAW Int
 |.c0 b c a=>mk (cond (ArF a b) (k (.c0 b (FN (2*c)) (NM a))) (some c))
def jX:ArS BAW Int
 |0,_=>none
 |m+1,s=>UAh (jX m) s
def Xx:Mc:=AKQ (jX AX)
def CBS:Arb:=fy u1 Xx E5 E5 [] Tryz.func334 BBS UAh AKQ jX
inductive CAW where
 |c0 (a:(List Int)) (b h:Int)
 |c1 (a:(List Int)) (b d:Int) (e f:Int) (g:(List Int))
 |c2 (a:(List Int)) (b d:Int) (e f:Int) (g:(List Int))
def DBS:CAW->Asu
 |.c0 a b h=>(tdo Tryz.f319 464,[vr 0 3 a,vi 1 b,vi 6 h],[])
 |.c1 a b d e f g=>(tdo Tryz.f319 8144,[vr 0 3 a,vi 1 b,vo 7 496,vi 8 d,vi 9 e,vi 10 f],[(496,.sl 5 g)])
 |.c2 a b d e f g=>(tdo Tryz.f319 1042736,[vr 0 3 a,vi 1 b,vo 7 496,vi 8 d,vi 9 e,vi 10 f],[(496,.sl 5 g)])
def BAw (c:As1) (e:Mc) (k:AsB CAW (AA×Bool)):YAp:=fun d b=>mk ((c b 1 12).bind fun a=>cond (!a) (LZ (IK,false)) (k (.c0 d b 0)))
def Asa (a:As1) (b:Mc) (k:AsB CAW (AA×Bool)):AsB CAW (AA×Bool)
 |.c0 c e d=>mk (cond (ArF d (NZ c)) (cond (AvD d c) ((b e).bind fun f=>(a (Arc c d) 0 (Nq f)).bind fun g=>cond (!g) (LZ (IK,false)) (k (.c0 c e (NM d)))) none) (k (.c1 c e 0 0 0 [])))
 |.c1 d h i f c e=>mk (cond (ArF c (NZ d)) (cond (AvD c d) ((b f).bind fun g=>k (.c2 d h (D7 i (FN ((Arc d c)*g))) (D7 f h) c e)) none) (cond (Rn f) (Nc (Qo e) (LZ (ofBytes (e++[w8 i]),true))) (LZ (ofBytes e,true))))
 |.c2 f g e c h d=>mk (cond (c>=8) (cond (Qo d) (k (.c2 f g (FN (e.tdiv 256)) (FN (c - 8)) h (d++[w8 (e.tmod 256)]))) none) (k (.c1 f g e c (NM h) d)))
def Aum:ArS CAW (AA×Bool)
 |0,_=>none
 |m+1,s=>Asa AuU Xx (Aum m) s
def VAh:YAp:=BAw AuU Xx (Aum AX)
def EBS:Arb:=fy u2 VAh rV Hw [Jm,CBS] Tryz.func319 DBS Asa BAw Aum
def CAw (d:AuJ) (e:YAp):Ate:=fun b=>mk ((d b).bind fun a=>cond (!a) Wx ((e b 12).bind fun c=>some c.1))
def Z7:Ate:=CAw Ui VAh
def FBS:Arb:=BF u1 Z7 VZ CS [TAh,EBS] Tryz.func300 CAw
inductive DAW where
 |c0 (a b:(List Int)) (d:Int) (e:(List Int))
def GBS:DAW->Asu
 |.c0 a b d e=>(tdo Tryz.f320 976,[vr 0 3 a,vr 1 3 b,vo 5 368,vi 6 d],[(368,.sl 3 e)])
def DAw (b:AuJ) (f:Mc) (g:AsW) (k:AsB DAW (List Int)):J8:=fun c e=>mk ((b c).bind fun a=>cond (!a) (FI []) ((b e).bind fun d=>cond (!d) (FI []) (k (.c0 c e 0 []))))
def EAw (a:AuJ) (b:Mc) (c:AsW) (k:AsB DAW (List Int)):AsB DAW (List Int)
 |.c0 e f d g=>mk (cond (d<128) ((b d).bind fun h=>(c 17 (Aq2 h)).bind fun i=>cond (AtI (Aq2 d) (NZ e)) (cond (AtI (Aq2 d) (NZ f)) (cond (Jc (2*d) e) (cond (Jc (2*d) f) (cond (Jc (2*d) e) (cond (AtI (Aq2 d) (NZ f)) (cond (AtI (Aq2 d) (NZ e)) (cond (Jc (2*d) f) (cond (Ic ((g.length+2)*8)) (k (.c0 e f (NM d) (g++[(Nj ((Jd e (2*d))*(Jd f (2*d))) ((dZ (Arc e (Aq2 d)) (Arc f (Aq2 d)))*i)).tmod 3329,(Nj ((Jd e (2*d))*(Arc f (Aq2 d))) ((Arc e (Aq2 d))*(Jd f (2*d)))).tmod 3329]))) none) none) none) none) none) none) none) none) none) (FI g))
def jY:ArS DAW (List Int)
 |0,_=>none
 |m+1,s=>EAw Ui Zz Z4 (jY m) s
def vH:J8:=DAw Ui Zz Z4 (jY AX)
def HBS:Arb:=fy u2 vH gG JL [TAh,WBA,XBA] Tryz.func320 GBS EAw DAw jY
inductive FAW where
 |c0 (a b:(List Int)) (d:Int) (e:(List Int))
def IBS:FAW->Asu
 |.c0 a b d e=>(tdo Tryz.f301 464,[vr 0 3 a,vr 1 3 b,vo 5 368,vi 6 d],[(368,.sl 3 e)])
def FAw (c:AuJ) (k:AsB FAW (List Int)):J8:=fun a b=>k (.c0 a b 0 [])
def GAw (a:AuJ) (k:AsB FAW (List Int)):AsB FAW (List Int)
 |.c0 d e b c=>mk (cond (RF b) ((a d).bind fun f=>cond f ((a e).bind fun g=>cond g (cond (AvD b d) (cond (AvD b e) (cond (QC c) (k (.c0 d e (NM b) (c++[(D7 (Arc d b) (Arc e b)).tmod 3329]))) none) none) none) (FI c)) (FI c)) (FI c))
def jZ:ArS FAW (List Int)
 |0,_=>none
 |m+1,s=>GAw Ui (jZ m) s
def Xy:J8:=FAw Ui (jZ AX)
def ZBA:Arb:=fy u2 Xy gG JL [TAh] Tryz.func301 IBS GAw FAw jZ
inductive GAW where
 |c0 (a:(List (List Int))) (b:(List (List Int))) (d:Int) (e:(List Int))
def JBS:GAW->Asu
 |.c0 a b d e=>(tdo Tryz.f302 464,[vr 0 100 a,vr 1 100 b,vo 5 368,vi 6 d],[(368,.sl 3 e)])
def HAw (c d:J8) (k:AsB GAW (List Int)):SG:=fun a b=>mk (k (.c0 a b 0 XQ))
def WAh (a b:J8) (k:AsB GAW (List Int)):AsB GAW (List Int)
 |.c0 d e c h=>mk (cond (Gv c d.length) (cond (AtW c d.length) (cond (AtW c e.length) ((a (d.getD (IZ c) []) (e.getD (IZ c) [])).bind fun f=>(b h f).bind fun g=>k (.c0 d e (NM c) g)) none) none) (FI h))
def jc:ArS GAW (List Int)
 |0,_=>none
 |m+1,s=>WAh vH Xy (jc m) s
def Uk:SG:=HAw vH Xy (jc AX)
def AXs:Arb:=fy u2 Uk ARi JL [HBS,ZBA] Tryz.func302 JBS WAh HAw jc
inductive HAW where
 |c0 (a b:AA) (d e f:AA) (j:Int) (g:KG) (h:(List (List Int))) (i:(List (List Int)))
 |c1 (a b:AA) (d e f:AA) (l:Int) (g:KG) (h:(List (List Int))) (i:(List (List Int)))
def KBS:HAW->Asu
 |.c0 b d e f g j a h i=>(tdo Tryz.f281 65488,[vp 2 128,vs 4 b,vs 5 d,vs 6 e,vo 7 496,vo 8 560,vs 9 f,vs 10 g,vi 11 j],[(128,.var [.str a.ZM,.str a.ZN]),(496,.sl 100 h),(560,.sl 100 i)])
 |.c1 b d e f g l a h i=>(tdo Tryz.f281 131024,[vp 2 128,vs 4 b,vs 5 d,vs 6 e,vo 7 496,vo 8 560,vs 9 f,vs 10 g,vi 13 l],[(128,.var [.str a.ZM,.str a.ZN]),(496,.sl 100 h),(560,.sl 100 i)])
def IAw (b:As8) (g:AG7) (h:Uy) (i:Ud) (j:Ate) (l:SG) (m:J8) (k:AsB HAW (KG×Bool)):Yv:=fun d=>mk (cond ((Aq5 d) != 32) (some (⟨IK,IK⟩,false)) ((b d).bind fun a=>cond (AsU a (Arl ⟨#[114]⟩)) ((b (a++(Arl ⟨#[114]⟩))).bind fun c=>cond (AsU a (Arl ⟨#[115]⟩)) ((b (a++(Arl ⟨#[115]⟩))).bind fun e=>(g c).bind fun f=>k (.c0 a c e IK IK 0 ⟨IK,IK⟩ f [])) none) none))
def Xz (a:As8) (b:AG7) (c:Uy) (d:Ud) (e:Ate) (f:SG) (g:J8) (k:AsB HAW (KG×Bool)):AsB HAW (KG×Bool)
 |.c0 p q i r n h s t l=>mk (cond (UA h) ((c i h).bind fun o=>(d o).bind fun j=>cond (XP l) ((e j).bind fun m=>cond (AsU n m) (k (.c0 p q i r (n++m) (NM h) s t (l++[j]))) none) none) (k (.c1 p q i r n 0 s t l)))
 |.c1 p j u h l i x n s=>mk (cond (UA i) (cond (AuB (FN (i*2)) (FN ((FN (i*2))+2)) (n.length:Int)) ((f ((n.drop (Ub (i*2))).take ((Ub ((FN (i*2))+2)) - (Ub (i*2)))) s).bind fun r=>(c u (FN (2+i))).bind fun t=>(d t).bind fun v=>(g r v).bind fun w=>(e w).bind fun o=>cond (AsU h o) (k (.c1 p j u (h++o) l (NM i) x n s)) none) none) (cond (AsU h j) (cond (AsU l (h++j)) ((a (h++j)).bind fun m=>cond (Hr l (h++j) m) (cond (AsU p (Arl ⟨#[122]⟩)) ((a (p++(Arl ⟨#[122]⟩))).bind fun q=>cond (Hr (l++(h++j)) m q) (some (⟨h++j,((l++(h++j))++m)++q⟩,true)) none) none) none) none) none))
def WW:ArS HAW (KG×Bool)
 |0,_=>none
 |m+1,s=>Xz As0 vC WV Xw Z7 Uk Xy (WW m) s
def vI:Yv:=IAw As0 vC WV Xw Z7 Uk Xy (WW AX)
def BBB:Arb:=fy u1 vI CS ARj [Atz,TBR,WBR,YBA,FBS,AXs,ZBA] Tryz.func281 KBS Xz IAw WW
def JAw:qG:=fun _=>none
def LBS:Arb:=fs u1 JAw CS ARk 335
def KAw:Uy:=fun _ _=>none
def MBS:Arb:=fs u2 KAw QM JL 336
def LAw:Ud:=fun _=>none
def NBS:Arb:=fs u1 LAw VZ JL 338
def MAw:J8:=fun _ _=>none
def OBS:Arb:=fs u2 MAw gG JL 337
inductive JAW where
 |c0 (a:AA) (b:Int) (d:(List (List Int))) (e:(List (List Int)))
def PBS:JAW->Asu
 |.c0 a b d e=>(tdo Tryz.f321 4048,[vs 1 a,vo 6 432,vo 8 560,vi 9 b],[(432,.sl 100 d),(560,.sl 100 e)])
def NAw (d:qG) (e:Uy) (f:Ud) (g:SG) (h:Ud) (i:J8) (k:AsB JAW (List Int×Bool)):qH:=fun b c=>mk (cond ((Aq5 b) != 1632) (some ([],false)) (cond ((Aq5 c) != 768) (some ([],false)) ((d b).bind fun a=>cond (!a.2) (some ([],false)) (k (.c0 c 0 a.1 [])))))
def CBB (a:qG) (b:Uy) (c:Ud) (d:SG) (e:Ud) (f:J8) (k:AsB JAW (List Int×Bool)):AsB JAW (List Int×Bool)
 |.c0 h g m i=>mk (cond (UA g) (cond (AuB (FN (g*320)) (FN ((NM g)*320)) (Aq5 h)) ((b (h.extract (Ub (g*320)) (Ub ((NM g)*320))) 10).bind fun j=>(c j).bind fun l=>cond (XP i) (k (.c0 h (NM g) m (i++[l]))) none) none) (cond ((GN La (640:Int)) && (decide (640<=(Aq5 h)))) ((b (O7 h (640:Int)) 4).bind fun n=>(d m i).bind fun o=>(e o).bind fun p=>(f n p).bind fun q=>some (q,true)) none))
def OAw:ArS JAW (List Int×Bool)
 |0,_=>none
 |m+1,s=>CBB JAw KAw Xw Uk LAw MAw (OAw m) s
def PAw:qH:=NAw JAw KAw Xw Uk LAw MAw (OAw AX)
def QBS:Arb:=fy u2 PAw KH AIK [LBS,MBS,YBA,AXs,NBS,OBS] Tryz.func321 PBS CBB NAw OAw
def DBB:qI:=fun _ _=>none
def RBS:Arb:=fs u2 DBB rV CS 322
def QAw (c:qH) (f:qI):Au0:=fun d e=>mk ((c d e).bind fun a=>cond (!a.2) (LZ (IK,false)) ((f a.1 1).bind fun b=>LZ (b,true)))
def RAw:Au0:=QAw PAw DBB
def SBS:Arb:=BF u2 RAw KH Hw [QBS,RBS] Tryz.func303 QAw
def EBB:BAe:=fun _ _=>none
def TBS:Arb:=fs u2 EBB KH ARl 304
def SAw (h:Au0) (i:BAe) (f:As8):Au0:=fun a b=>mk ((h a b).bind fun d=>cond (!d.2) (LZ (IK,false)) (Nc (XAq a) ((i (a.extract (IZ (768:Int)) (IZ (1568:Int))) d.1).bind fun c=>cond c.2.2 (cond (EZ c.1 b) (LZ (c.2.1,true)) (Nc (Jf (FN ((Aq5 a) - 32)) (Aq5 a)) (Nc (AsU (zH a) b) ((f ((zH a)++b)).bind fun e=>LZ (e,true))))) (Nc (Jf (FN ((Aq5 a) - 32)) (Aq5 a)) (Nc (AsU (zH a) b) ((f ((zH a)++b)).bind fun g=>LZ (g,true)))))))
def jd:Au0:=SAw RAw EBB As0
def UBS:Arb:=BF u2 jd KH Hw [SBS,TBS,Atz] Tryz.func282 SAw
def TAw (e:OL):qJ:=fun a c b=>mk ((e a).bind fun d=>cond (!d) (some (⟨0,0,false,false,false,false,IK,0⟩,false)) (cond (Tf a) (cond (!c) (some (⟨0,0,false,false,false,false,IK,0⟩,false)) (cond (Arh a) (cond (!b) (some (⟨0,0,false,false,false,false,IK,0⟩,false)) (some (XK a c b,true))) (some (XK a c b,true)))) (cond (Arh a) (cond (!b) (some (⟨0,0,false,false,false,false,IK,0⟩,false)) (some (XK a c b,true))) (some (XK a c b,true)))))
def XAh:qJ:=TAw Arq
def VBS:Arb:=BF u3 XAh ARm Xa [zf] Tryz.func283 TAw
def UAw (b:As8):As8:=fun a=>mk (FH (AsU a O8) (Lh (b (a++O8))))
def YAh:As8:=UAw uM
def WBS:Arb:=BF u1 YAh CS CS [NBA] Tryz.func305 UAw
def VAw (d:OL) (e:Yv) (f:As8):qK:=fun a=>mk ((d a).bind fun b=>cond (!b) Wx (cond (a.Aa == 1) ((e (AtN a)).bind fun c=>some c.1.ZM) (cond (a.Aa == 2) (Lh (f (AtN a))) Wx)))
def ZAh:qK:=VAw Arq vI YAh
def XBS:Arb:=BF u1 ZAh RP CS [zf,BBB,WBS] Tryz.func284 VAw
def WAw (e:pX) (d:dV) (t:SE) (u:AvL) (v:VL) (w:Au0) (x:Yv) (y:Au0) (c:dU) (z:qJ) (A:yw) (B:qK):SE:=fun j a b=>mk (cond (a.Au == 6) ((e b 1).bind fun h=>cond h (AsJ (d [] (AtN b))) (AsJ (c 8 Y3))) (cond (a.Au == 5) ((e b 3).bind fun i=>cond i (AsJ (t j a b)) (AsJ (c 8 Y3))) (cond (a.Au == 10) ((e b 2).bind fun l=>cond l ((u b).bind fun m=>(v j).bind fun n=>(w n m.1).bind fun o=>AsJ (d [] o.1)) (AsJ (c 8 Y3))) (cond (a.Au == 12) ((e b 4).bind fun p=>cond p ((x (AtN b)).bind fun q=>(y q.1.ZN a.fText).bind fun f=>cond (!f.2) (AsJ (c 6 zJ)) (AsJ (d [] f.1))) (AsJ (c 8 Y3))) (cond (a.Au == 8) ((z b a.CY a.CZ).bind fun g=>cond g.2 ((A g.1).bind fun r=>AsJ (d r IK)) (AsJ (c 8 Y3))) (cond (a.Au == 7) ((B b).bind fun s=>AsJ (d [] s)) (cond (a.Au == 9) (AsJ (d [⟨4,IK,b.fId,⟨0,0,false,false,false,false,IK,0⟩⟩] IK)) (AsJ (c 8 Y3)))))))))
def ADw:SE:=WAw WAg qV NAh YT au ay vI jd qU XAh NAg ZAh
def YBS:Arb:=BF u3 ADw ACc Nw [BBQ,DAU,AkA,LAf,GAt,JAt,BBB,UBS,AAU,VBS,UAt,XBS] Tryz.func253 WAw
def XAw (c:dU) (l:QZ) (f:dV) (p:Wh) (q:J7) (r:As8) (n:pV) (o:Yl) (s:J7) (t:At1) (u:SE):J7:=fun b a=>mk (cond (a.Au == 1) (cond ((He b:Int) == 3) (AsJ (c 1 dw)) (cond ((Asn b) == 1000) (AsJ (c 1 dw)) ((l (NM (Asn b))).bind fun j=>AsJ (f [] j)))) ((p b (Atp a)).bind fun d=>cond (JK d) (AsJ (c 2 ⟨#[115,101,115,115,105,111,110]⟩)) (cond (a.Au == 13) (AsJ (f [] IK)) (cond (a.Au == 2) (AsJ (q b a)) (cond (AtW d (He b)) (cond (!(KT (Eb b) d ⟨0,false⟩).RS) (AsJ (c 5 ⟨#[111,117,116]⟩)) (cond (a.Au == 3) (cond ((Aq5 a.fText) > 20) (AsJ (c 6 zJ)) ((r a.fText).bind fun m=>AsJ (f [⟨1,m,0,⟨0,0,false,false,false,false,IK,0⟩⟩] IK))) (cond (a.Au == 4) (cond (a.Aa == 2) ((l (Am b)).bind fun e=>cond (AsU e eG) (cond (AsU (e++eG) a.fText) ((n a.Aa ((e++eG)++a.fText)).bind fun g=>AsJ (o b a g.1 g.2)) none) none) ((n a.Aa a.fText).bind fun h=>AsJ (o b a h.1 h.2))) (cond (a.Au == 11) (AsJ (s b a)) ((t (As9 b) a.BK).bind fun i=>cond (!i.2) (AsJ (c 7 ⟨#[110,111,110,101]⟩)) (AsJ (u b a i.1))))))) none)))))
def TG:J7:=XAw qU iJ qV KAg LAg As0 MAg tV VAg U9 ADw
def ZBS:Arb:=BF u2 TG ZR Nw [AAU,AXS,DAU,SBP,TBP,Atz,UBP,DBA,Ajk,zk,YBS] Tryz.func209 XAw
inductive KAW where
 |c0 (a:(List Int)) (b:Int) (d:BO) (e f:(List BQ))
def Ak0:KAW->Asu
 |.c0 a b d e f=>(tdo Tryz.f285 976,[vr 1 3 a,vp 2 128,vp 4 256,vp 6 384,vi 7 b],[(128,.var [.BH 140 d.Ai]),(256,.var [.own 1016384]),(384,.var [.own 1024576]),(1016384,.sl 140 e),(1024576,.sl 140 f)])
def YAw (c:OJ) (k:AsB KAW (BO×Bool)):ZAp:=fun b d=>mk ((c b).bind fun a=>cond (!a) (Ib (GZ,false)) (k (.c0 d 0 b [] [])))
def ZAw (a:OJ) (k:AsB KAW (BO×Bool)):AsB KAW (BO×Bool)
 |.c0 d b c f e=>mk (cond (Gv b (Lj c)) (cond (LD b c) (cond (ArF b (NZ d)) (cond (AvD b d) (cond ((Arc d b) > (Jk c b)) (cond (ArF (Jk c b) (LG c b)) (cond (Jf (LG c b) (Jk c b)) (cond (SH e) (k (.c0 d (NM b) c f (e++[WAe c b]))) none) none) (cond ((AuS (Jk c b)) && (decide ((Jk c b)<=(Jk c b)))) (cond (SH e) (k (.c0 d (NM b) c f (e++[(⟨(Atk c b).fName,QD (ArB c b) (Jk c b),Jk c b⟩:BQ)]))) none) none)) (cond (ArF (Arc d b) (LG c b)) (cond (Jf (LG c b) (Jk c b)) (cond (SH e) (k (.c0 d (NM b) c f (e++[WAe c b]))) none) none) (cond (Jf (Arc d b) (Jk c b)) (cond (SH e) (k (.c0 d (NM b) c f (e++[(⟨(Atk c b).fName,QD (ArB c b) (Arc d b),Arc d b⟩:BQ)]))) none) none))) none) (cond (0<(LG c b)) (cond (Jf (LG c b) (Jk c b)) (cond (SH e) (k (.c0 d (NM b) c f (e++[WAe c b]))) none) none) (cond (SH e) (k (.c0 d (NM b) c f (e++[(⟨(Atk c b).fName,QD (ArB c b) La,0⟩:BQ)]))) none))) none) (Ib (⟨e⟩,true)))
def vJ:ArS KAW (BO×Bool)
 |0,_=>none
 |m+1,s=>ZAw Wu (vJ m) s
def vK:ZAp:=YAw Wu (vJ AX)
def BBT:Arb:=fy u2 vK AbI ACa [XAf] Tryz.func285 Ak0 ZAw YAw vJ
def AKk (e:As1) (f:AvN) (h:ZAp):CAe:=fun g b a i=>mk (O3 (e a 0 (b.length:Int)) (Ib (GZ,false)) (cond (Jf a (b.length:Int)) ((f g ((b.take (IZ a)).drop 0)).bind fun c=>cond (ArF c.2 a) (Ib (GZ,false)) ((h c.1 i).bind fun d=>Ib (d.1,d.2))) none))
def vM:CAe:=AKk AuU WZ vK
def CBT:Arb:=BF u4 vM AbJ ACa [Jm,DAg,BBT] Tryz.func254 AKk
def BAx (c:Td):Yw:=fun b d=>mk ((c b d).bind fun a=>cond (JK a) (LZ (IK,false)) (Nc (LD a b) (LZ (ArB b a,true))))
def jf:Yw:=BAx oK
def FBB:Arb:=BF u2 jf rX Hw [RAs] Tryz.func109 BAx
inductive PAW where
 |c0 (a:AA) (b:Int) (d:(List AA))
def DBT:PAW->Asu
 |.c0 a b d=>(tdo Tryz.f155 992,[vs 0 a,vo 4 304,vi 5 b],[(304,.sl 9 d)])
def CAx (b:Q5) (c:Aur) (k:AsB PAW (List AA×Int)):Yx:=fun a=>mk (cond ((Aq5 a) > 20000) (some ([],0)) (k (.c0 a 0 [])))
def DAx (a:Q5) (b:Aur) (k:AsB PAW (List AA×Int)):AsB PAW (List AA×Int)
 |.c0 e d f=>mk (cond (ArF d (Aq5 e)) ((a e d).bind fun c=>cond (!c.2.2) (some (f,d)) (cond (c.1 > (FN ((ArU (Aq5 e) c.2.1) - 4))) (some (f,d)) (cond (AuB (FN (c.2.1+4)) (FN (Ari c)) (Aq5 e)) ((b (e.extract (Ub (c.2.1+4)) (Ub (Ari c)))).bind fun g=>cond (!g.2) (some (f,d)) (cond (AuB d (FN (Ari c)) (Aq5 e)) (cond (!(EZ g.1 (Jl e d (Ari c)))) (some (f,d)) (cond (AuZ f) (k (.c0 e (FN (Ari c)) (f++[e.extract (Ub (c.2.1+4)) (Ub (Ari c))]))) none)) none)) none))) (some (f,d)))
def vO:ArS PAW (List AA×Int)
 |0,_=>none
 |m+1,s=>DAx AvB YW (vO m) s
def vN:Yx:=CAx AvB YW (vO AX)
def EBT:Arb:=fy u1 vN CS ARn [ZAt,MAs] Tryz.func155 DBT DAx CAx vO
def dG (l:Ym) (m:yx) (i:Ym) (j:Yn) (c:Arm):Yy:=fun b=>mk ((l ⟨b,0,false⟩).bind fun a=>cond (a.1 == 1) ((m a.2 32).bind fun d=>Y1 c ⟨a.1,d.1,0,⟨0,0,false,false,false,false,IK,0⟩⟩ d.2.Ih (some (⟨0,IK,0,⟨0,0,false,false,false,false,IK,0⟩⟩,false)) b (some (⟨a.1,d.1,0,⟨0,0,false,false,false,false,IK,0⟩⟩,true))) (cond (a.1 == 2) (cond (a.1 == 2) ((i a.2).bind fun e=>Y1 c ⟨a.1,IK,e.1,⟨0,0,false,false,false,false,IK,0⟩⟩ e.2.Ih (some (⟨0,IK,0,⟨0,0,false,false,false,false,IK,0⟩⟩,false)) b (some (⟨a.1,IK,e.1,⟨0,0,false,false,false,false,IK,0⟩⟩,true))) (cond (a.1 == 3) (cond (zI b) ((j (O7 b ArE)).bind fun g=>Y1 c ⟨a.1,IK,0,g.1⟩ a.2.Ih (some (⟨0,IK,0,⟨0,0,false,false,false,false,IK,0⟩⟩,false)) b (some (⟨a.1,IK,0,g.1⟩,true))) none) (Y1 c ⟨a.1,IK,0,⟨0,0,false,false,false,false,IK,0⟩⟩ a.2.Ih (some (⟨0,IK,0,⟨0,0,false,false,false,false,IK,0⟩⟩,false)) b (some (⟨a.1,IK,0,⟨0,0,false,false,false,false,IK,0⟩⟩,true))))) (cond (a.1 == 4) ((i a.2).bind fun f=>Y1 c ⟨a.1,IK,f.1,⟨0,0,false,false,false,false,IK,0⟩⟩ f.2.Ih (some (⟨0,IK,0,⟨0,0,false,false,false,false,IK,0⟩⟩,false)) b (some (⟨a.1,IK,f.1,⟨0,0,false,false,false,false,IK,0⟩⟩,true))) (cond (a.1 == 3) (cond (zI b) ((j (O7 b ArE)).bind fun h=>Y1 c ⟨a.1,IK,0,h.1⟩ a.2.Ih (some (⟨0,IK,0,⟨0,0,false,false,false,false,IK,0⟩⟩,false)) b (some (⟨a.1,IK,0,h.1⟩,true))) none) (Y1 c ⟨a.1,IK,0,⟨0,0,false,false,false,false,IK,0⟩⟩ a.2.Ih (some (⟨0,IK,0,⟨0,0,false,false,false,false,IK,0⟩⟩,false)) b (some (⟨a.1,IK,0,⟨0,0,false,false,false,false,IK,0⟩⟩,true)))))))
def TW:Yy:=dG TV Auh Yc Wj cZ
def FBT:Arb:=BF u1 TW CS ARo [FBA,CAu,BAu,GBA,UAr] Tryz.func157 dG
inductive SAW where
 |c0 (a:AA) (b d:Int) (e:(List Aq)) (f:(List AA))
def GBT:SAW->Asu
 |.c0 a b d e f=>(tdo Tryz.f110 2000,[vs 0 a,vo 6 432,vo 7 496,vi 9 b,vi 10 d],[(432,.sl 48 e),(496,.sl 9 f)])
def EAx (b:Yx) (e:Wl) (f:Yy) (g:Aur) (k:AsB SAW (List Aq×Int)):Yz:=fun d c=>(b c).bind fun a=>k (.c0 d 0 0 [] a.1)
def BAi (a:Yx) (b:Wl) (c:Yy) (d:Aur) (k:AsB SAW (List Aq×Int)):AsB SAW (List Aq×Int)
 |.c0 l h e g f=>mk (cond (ArF e (AuK f)) (cond (Oq e f) ((b l (NM e) (ArA f e IK)).bind fun i=>(c i.1).bind fun j=>cond (!i.2) (some (g,h)) (cond (!j.2) (some (g,h)) (cond (Ic ((g.length+1)*80)) (cond (Oq e f) ((d (ArA f e IK)).bind fun m=>k (.c0 l (D7 h (Aq5 m.1)) (NM e) (g++[j.1]) f)) none) none))) none) (some (g,h)))
def ji:ArS SAW (List Aq×Int)
 |0,_=>none
 |m+1,s=>BAi vN iK TW YW (ji m) s
def jh:Yz:=EAx vN iK TW YW (ji AX)
def GBB:Arb:=fy u2 jh KH ARp [EBT,EBA,FBT,MAs] Tryz.func110 GBT BAi EAx ji
def FAx:qL:=fun a b=>mk (cond (Ic ((0+a.Ez.length)*80)) (cond (Ic ((a.Ez.length+1)*80)) (some ⟨a.Ad,a.Du,ArK a,a.Ey,a.Ez++[b]⟩) none) none)
def X0:qL:=FAx
def HBB:Arb:=BF u2 X0 AbK rY [] Tryz.func211 FAx [0]
def GAx (c:P8):MG:=fun a=>mk (Ig (Ic ((0+(Lj a.Bd))*40)) (c.bind fun b=>some ⟨a.BN,false,⟨AtO a⟩,b,[],[],0⟩))
def jk:MG:=GAx AtY
theorem HBT:QL ctx PP 255 QN UF (u1 jk):=ty0 u1 jk QN UF [zY] Tryz.func255 GAx
def HAx (c:P8):DAe:=fun a=>mk (Ig (Ic ((0+a.2.2.1.length)*40)) (c.bind fun b=>some ⟨a.1,false,⟨a.2.2.1⟩,b,[],[],0⟩))
def jl:DAe:=HAx AtY
theorem IBT:QL ctx PP 255 ARz UF (u1 jl):=ty0 u1 jl ARz UF [zY] Tryz.func255 HAx
inductive TAW where
 |c0 (a:AA) (b:Bool) (d:AA) (e f:Int) (g:AA) (h i:Int) (j:AA) (l:Bool) (n:AA) (o p:Int) (q:AA) (t u:Int) (v:(List BQ)) (w:(List Ah)) (x:(List EC)) (y:(List Cc)) (aa:(List Int)) (ab:(List AA)) (ac:(List KE)) (ad:(List Aq)) (ae:(List BQ))
 |c1 (a:AA) (b:Bool) (d:AA) (e f:Int) (g:AA) (h i:Int) (j:AA) (l:Bool) (n:AA) (o p:Int) (q:AA) (t u:Int) (v:(List BQ)) (w:(List Ah)) (x:(List EC)) (y:(List Cc)) (aa:(List Int)) (ab:(List AA)) (ac:(List KE)) (ad:(List Aq)) (ae:(List BQ))
def JBT:TAW->Asu
 |.c0 a b d e f g h i j l n o p q t u v w x y aa ab ac ad ae=>(tdo Tryz.f210 510,[vp 0 0,vp 6 384,vp 9 576],[(0,.var [.str a,.bool b,.own 1000002,.str d,li e,.own 1000005,li f,.str g,li h,.own 1000009,.own 1000010,li i,.own 1000012,.own 1000013,.own 1000014,.own 1000015]),(384,.var [.str j,.bool l,.any,.str n,li o,.any,li p,.str q,li t,.any,.any,li u]),(576,.var [.own 1036864]),(1000002,.sl 140 v),(1000005,.sl 46 w),(1000009,.sl 67 x),(1000010,.sl 73 y),(1000012,.sl 3 aa),(1000013,.sl 9 ab),(1000014,.sl 243 ac),(1000015,.sl 48 ad),(1036864,.sl 140 ae)])
 |.c1 a b d e f g h i j l n o p q t u v w x y aa ab ac ad ae=>(tdo Tryz.f210 510,[vp 0 0,vp 6 384,vp 9 576],[(0,.var [.str a,.bool b,.own 1000002,.str d,li e,.own 1000005,li f,.str g,li h,.own 1000009,.own 1000010,li i,.own 1000012,.own 1000013,.own 1000014,.own 1000015]),(384,.var [.str j,.bool l,.own 1000002,.str n,li o,.own 1000005,li p,.str q,li t,.own 1000009,.own 1000010,li u]),(576,.var [.own 1036864]),(1000002,.sl 140 v),(1000005,.sl 46 w),(1000009,.sl 67 x),(1000010,.sl 73 y),(1000012,.sl 3 aa),(1000013,.sl 9 ab),(1000014,.sl 243 ac),(1000015,.sl 48 ad),(1036864,.sl 140 ae)])
def IAx (h:Aro) (i:CAe) (l:Yw) (m:Yz) (n:qL) (o:MG×DAe) (q:dS) (k:AsB TAW Cm):EAe:=fun a e j=>mk ((h (AtV a) (AsT a) e).bind fun d=>(i a.Ad.Bd d.1 1 j).bind fun c=>(l c.1 AuW).bind fun f=>(m (AtV a) f.1).bind fun g=>cond ((g.1.length:Int) > (AsT a)) ((n a e).bind fun b=>k (.c0 (AtV b) b.Ad.Bj (Tt b) (Ut b) (AvC b) (Jb (II b)) (AsT b) (AsQ b) (AtV a) a.Ad.Bj (Tt a) (Ut a) (AvC a) (Jb (II a)) (AsT a) (AsQ a) (AtO b.Ad) (At3 (II b)) (Eb b.Ad) (Md b.Ad) b.Du (ArK b) b.Ey b.Ez c.1.Ai)) (k (.c1 (AtV a) a.Ad.Bj (Tt a) (Ut a) (AvC a) (Jb (II a)) (AsT a) (AsQ a) (AtV a) a.Ad.Bj (Tt a) (Ut a) (AvC a) (Jb (II a)) (AsT a) (AsQ a) (AtO a.Ad) (At3 (II a)) (Eb a.Ad) (Md a.Ad) a.Du (ArK a) a.Ey a.Ez c.1.Ai)))
def CAi (a:Aro) (b:CAe) (c:Yw) (d:Yz) (e:qL) (f:MG×DAe) (h:dS) (k:AsB TAW Cm):AsB TAW Cm
 |.c0 _ _ _ _ _ _ _ _ j l n o p q r s _ _ _ _ t u v w m=>mk ((f.2 (j,l,m,n,o,(),p,q,r,(),(),s)).bind fun i=>Aux (h ⟨i,t,u,v,w⟩ 10 IK))
 |.c1 _ _ _ _ _ _ _ _ j l n o q r s v _ p t u w x y z m=>mk ((f.1 ⟨j,l,⟨m⟩,⟨n,o,p,q,r,s⟩,t,u,v⟩).bind fun i=>Aux (h ⟨i,w,x,y,z⟩ 10 IK))
def vT:ArS TAW Cm
 |0,_=>none
 |m+1,s=>CAi oH vM jf jh X0 (jk,jl) WQ (vT m) s
def jm:EAe:=IAx oH vM jf jh X0 (jk,jl) WQ (vT AX)
def KBT:Arb:=fy u3 jm AbL rY [TA9,CBT,FBB,GBB,HBB,fj u1 u1 HBT IBT,NAt] Tryz.func210 JBT CAi IAx vT [0]
def JAx (d:At1) (f:YAd):Wh:=fun b e=>mk ((d (As9 b) e).bind fun a=>cond (!a.2) Au8 (cond (a.1.Aa != 2) Au8 ((f b a.1).bind fun c=>some c)))
def Ql:Wh:=JAx U9 uD
def IBB:Arb:=BF u2 Ql rZ E5 [zk,IBA] Tryz.func14 JAx
def KAx (c:AuQ):MG:=fun a=>mk (Ig (Ic ((0+(Lj a.Bd))*40)) ((c (As9 a)).bind fun b=>Ig (AvJ (0+(He a))) (Ig (AvJ (0+(Tn a))) (some ⟨a.BN,a.Bj,⟨AtO a⟩,b,Eb a,Md a,Asn a⟩))))
def X3:MG:=KAx YV
def JBB:Arb:=BF u1 X3 QN UF [XAr] Tryz.func118 KAx
inductive aA where
 |c0 (a:(List Cc)) (b e f:Int) (d:(List Cc))
 |c1 (a:(List Cc)) (b g:Int) (d:(List Cc))
def LBT:aA->Asu
 |.c0 a b e f d=>(tdo Tryz.f256 464,[vr 0 73 a,vi 1 b,vi 2 e,vo 7 496,vi 8 f],[(496,.sl 73 d)])
 |.c1 a b g d=>(tdo Tryz.f256 2000,[vr 0 73 a,vi 1 b,vo 7 496,vi 9 g],[(496,.sl 73 d)])
def LAx (k:AsB aA (List Cc)):FAe:=fun a b c=>k (.c0 a b c 0 [])
def jq (k:AsB aA (List Cc)):AsB aA (List Cc)
 |.c0 a c e b d=>mk (cond (Gv b a.length) (cond (AtW b a.length) (cond (ArF (Ary a b).fId c) (cond (AtW b a.length) (cond (AvJ (d.length+1)) (k (.c0 a c e (NM b) (d++[Ary a b]))) none) none) (k (.c0 a c e (NM b) d))) none) (cond (Aue e) (cond (AvJ (d.length+1)) (k (.c1 a c 0 (d++[(⟨c,e⟩:Cc)]))) none) (k (.c1 a c 0 d))))
 |.c1 b d a c=>mk (cond (Gv a b.length) (cond (AtW a b.length) (cond ((Ary b a).fId > d) (cond (AtW a b.length) (cond (AvJ (c.length+1)) (k (.c1 b d (NM a) (c++[Ary b a]))) none) none) (k (.c1 b d (NM a) c))) none) (some c))
def Um:ArS aA (List Cc)
 |0,_=>none
 |m+1,s=>jq (Um m) s
def vU:FAe:=LAx (Um AX)
def MBT:Arb:=fy u3 vU AbM AbN [] Tryz.func256 LBT jq LAx Um
inductive aB where
 |c0 (af:Int) (ag:Aj) (a:CJ) (b:AA) (d:Bool) (e:AA) (f g:Int) (h:AA) (i j:Int) (l:AA) (n:Bool) (o:AA) (p q:Int) (t:AA) (u v:Int) (Asz:(List EC)) (w:(List BQ)) (x:(List Ah)) (y:(List EC)) (aa:(List Cc)) (ab:(List BQ)) (ac:(List Ah)) (ad:(List EC)) (ae:(List Cc))
 |c1 (ai:Int) (a:CJ) (b:AA) (d:Bool) (e:AA) (f g:Int) (h:AA) (i j:Int) (l:AA) (n:Bool) (o:AA) (p q:Int) (t:AA) (u v:Int) (w:(List BQ)) (x:(List Ah)) (y:(List EC)) (aa:(List Cc)) (ab:(List BQ)) (ac:(List Ah)) (ad:(List EC)) (ae:(List Cc))
def NBT:aB->Asu
 |.c0 ag b a d e f g h i j l n o p q t u v w Asz x y aa ab ac ad ae af=>(tdo Tryz.f212 251728,[vp 4 256,vp 5 320,vp 8 512,vp 9 576,vo 10 688,vi 11 ag],[(256,.var [.str b.BN,.bool b.Bj,.BH 140 b.Bd.Ai,.str b.AV.Bv,li b.AV.DR,.BH 46 b.AV.Ag,li b.AV.BR,.str b.AV.Dp,li b.AV.fCount,.BH 67 b.BI,.BH 73 b.BJ,li b.CU]),(320,.var [li a.Au,li a.Dz,li a.BK,li a.Aa,.str a.fText,.bool a.CY,.bool a.CZ]),(512,.var [.str d,.bool e,.own 1032770,.str f,li g,.own 1032773,li h,.str i,li j,.own 1032777,.own 1032778,li l]),(576,.var [.str n,.bool o,.own 1036866,.str p,li q,.own 1036869,li t,.str u,li v,.own 1036873,.own 1036874,li w]),(688,.sl 67 Asz),(1032770,.sl 140 x),(1032773,.sl 46 y),(1032777,.sl 67 aa),(1032778,.sl 73 ab),(1036866,.sl 140 ac),(1036869,.sl 46 ad),(1036873,.sl 67 ae),(1036874,.sl 73 af)])
 |.c1 ai a d e f g h i j l n o p q t u v w x y aa ab ac ad ae af=>(tdo Tryz.f212 251856,[vp 5 320,vp 8 512,vp 9 576,vi 12 ai],[(320,.var [li a.Au,li a.Dz,li a.BK,li a.Aa,.str a.fText,.bool a.CY,.bool a.CZ]),(512,.var [.str d,.bool e,.own 1032770,.str f,li g,.own 1032773,li h,.str i,li j,.own 1032777,.own 1032778,li l]),(576,.var [.str n,.bool o,.own 1036866,.str p,li q,.own 1036869,li t,.str u,li v,.own 1036873,.own 1036874,li w]),(1032770,.sl 140 x),(1032773,.sl 46 y),(1032777,.sl 67 aa),(1032778,.sl 73 ab),(1036866,.sl 140 ac),(1036869,.sl 46 ad),(1036873,.sl 67 ae),(1036874,.sl 73 af)])
def MAx (i:MG) (l:At1) (g:FAe) (k:AsB aB Aj):Yd:=fun c b j e=>mk ((i c).bind fun a=>cond (j != 0) (some a) (cond (b.Au == 1) (Ig (AvJ ((He a)+1)) (some ⟨a.BN,a.Bj,a.Bd,As9 a,(Eb a)++[(⟨NM (Asn c),false⟩:EC)],Md a,NM (Asn c)⟩)) (cond (b.Au == 13) (k (.c0 0 c b IK false IK 0 0 IK 0 0 a.BN a.Bj (As9 a).Bv (OI a) (Qx a) (Jb (As9 a)) (Tc a) (Asn a) [] [] [] [] [] (AtO a) (At3 (As9 a)) (Eb a) (Md a))) (cond (b.Au == 2) (k (.c1 0 b IK false IK 0 0 IK 0 0 a.BN a.Bj (As9 a).Bv (OI a) (Qx a) (Jb (As9 a)) (Tc a) (Asn a) [] [] [] [] (AtO a) (At3 (As9 a)) (Eb a) (Md a))) (cond (b.Au == 5) ((l (As9 c) b.BK).bind fun d=>cond d.2 (cond (d.1.Aa == 2) (cond (Aue e) (cond (ArF e d.1.fNext) ((g (Md c) d.1.fId (NM e)).bind fun f=>some ⟨a.BN,a.Bj,a.Bd,As9 a,Eb a,f,Asn a⟩) (some a)) (some a)) (some a)) (some a)) (cond (b.Au == 9) ((g (Md c) b.BK (-ArE)).bind fun h=>some ⟨a.BN,a.Bj,a.Bd,As9 a,Eb a,h,Asn a⟩) (some a)))))))
def jv (a:MG) (b:At1) (c:FAe) (k:AsB aB Aj):AsB aB Aj
 |.c0 d e g t u v w x y z A h i j l m n o p f B C D E q r F s=>mk (cond (Gv d (He e)) (cond (AtW d (He e)) (cond ((KT (Eb e) d ⟨0,false⟩).fId != (Atp g)) (cond (AtW d (He e)) (cond (AvJ (f.length+1)) (k (.c0 (NM d) e g t u v w x y z A h i j l m n o p (f++[KT (Eb e) d ⟨0,false⟩]) B C D E q r F s)) none) none) (k (.c0 (NM d) e g t u v w x y z A h i j l m n o p f B C D E q r F s))) none) (some ⟨h,i,⟨q⟩,⟨j,l,r,m,n,o⟩,f,s,p⟩))
 |.c1 d f s t u v w x y z g h i j l m n o A B C D p q e r=>mk (cond (Gv d e.length) (cond (AtW d e.length) (cond (KT e d ⟨0,false⟩).RS (cond (AtW d e.length) (k (.c1 (NM d) f s t u v w x y z g h i j l m n o A B C D p q (e.set (IZ d) (⟨(KT e d ⟨0,false⟩).fId,true⟩:EC)) r)) none) (cond (AtW d e.length) (cond (AtW d e.length) (k (.c1 (NM d) f s t u v w x y z g h i j l m n o A B C D p q (e.set (IZ d) (⟨(KT e d ⟨0,false⟩).fId,(KT e d ⟨0,false⟩).fId == (Atp f)⟩:EC)) r)) none) none)) none) (some ⟨g,h,⟨p⟩,⟨i,j,q,l,m,n⟩,e,r,o⟩))
def WX:ArS aB Aj
 |0,_=>none
 |m+1,s=>jv X3 U9 vU (WX m) s
def Un:Yd:=MAx X3 U9 vU (WX AX)
def OBT:Arb:=fy u4 Un ARq UF [JBB,zk,MBT] Tryz.func212 NBT jv MAx WX
inductive WAW where
 |c0 (a b:Int) (d:AA) (e f:Int) (g:AA) (h:Bool) (i:AA) (j l:Int) (n:AA) (o p:Int) (q:EN) (t:(List Aq)) (u:(List BQ)) (v:(List Ah)) (w:(List EC)) (x:(List Cc)) (y:(List Int)) (aa:(List AA)) (ab:(List KE)) (ac:(List Aq))
def PBT:WAW->Asu
 |.c0 b d e f g h i j l n o p q a t u v w x y aa ab ac=>(tdo Tryz.f164 4048,[vp 0 0,vi 1 b,vp 5 320,vo 6 432,vi 7 d,vs 8 e,vi 9 f,vi 10 g],[(0,.var [.str h,.bool i,.own 1000002,.str j,li l,.own 1000005,li n,.str o,li p,.own 1000009,.own 1000010,li q,.own 1000012,.own 1000013,.own 1000014,.own 1000015]),(320,.var [li a.CP.Au,li a.CP.Dz,li a.CP.BK,li a.CP.Aa,.str a.CP.fText,.bool a.CP.CY,.bool a.CP.CZ,.bool a.RN,.BH 3 a.QK,.bool a.MV]),(432,.sl 48 t),(1000002,.sl 140 u),(1000005,.sl 46 v),(1000009,.sl 67 w),(1000010,.sl 73 x),(1000012,.sl 3 y),(1000013,.sl 9 aa),(1000014,.sl 243 ab),(1000015,.sl 48 ac)])
def jw (d:dS) (i:J7) (j:EAe) (f:Wh) (l:yt) (m:Asm) (n:qL) (o:Yd) (k:AsB WAW Cm):Atm:=fun a g c=>mk (cond (!a.Ad.Bj) (Aux (d a 9 ⟨#[100,111,119,110]⟩)) (cond ((AsT a)>=10000) (Aux (d a 9 ⟨#[100,111,119,110]⟩)) ((i a.Ad c.CP).bind fun b=>cond c.RN (cond (Rn (b.1.length:Int)) (cond (XJ La (b.1.length:Int)) (Aux (j a (b.1.getD (IZ La) (⟨0,IK,0,⟨0,0,false,false,false,false,IK,0⟩⟩:Aq)) c.QK)) none) ((f a.Ad c.CP.BK).bind fun e=>k (.c0 g b.2.1 b.2.2 e 0 (AtV a) a.Ad.Bj (Tt a) (Ut a) (AvC a) (Jb (II a)) (AsT a) (AsQ a) c b.1 (AtO a.Ad) (At3 (II a)) (Eb a.Ad) (Md a.Ad) a.Du (ArK a) a.Ey a.Ez))) ((f a.Ad c.CP.BK).bind fun h=>k (.c0 g b.2.1 b.2.2 h 0 (AtV a) a.Ad.Bj (Tt a) (Ut a) (AvC a) (Jb (II a)) (AsT a) (AsQ a) c b.1 (AtO a.Ad) (At3 (II a)) (Eb a.Ad) (Md a.Ad) a.Du (ArK a) a.Ey a.Ez)))))
def EAi (a:dS) (b:J7) (c:EAe) (d:Wh) (e:yt) (f:Asm) (g:qL) (h:Yd) (k:AsB WAW Cm):AsB WAW Cm
 |.c0 J n r w j u F A B D E v I s l y C G H o p m q=>mk (cond (Gv j l.length) (cond (AtW j l.length) ((e u ⟨y⟩ v (VJ l j IK ⟨0,0,false,false,false,false,IK,0⟩)).bind fun x=>cond (AtW j l.length) ((f ⟨A,B,C,D,E,v⟩ (VJ l j IK ⟨0,0,false,false,false,false,IK,0⟩)).bind fun z=>cond (AtW j l.length) ((g ⟨⟨u,F,x,z.1,G,H,I⟩,o,p,m,q⟩ (VJ l j IK ⟨0,0,false,false,false,false,IK,0⟩)).bind fun i=>k (.c0 J n r w (NM j) (AtV i) i.Ad.Bj (Tt i) (Ut i) (AvC i) (Jb (II i)) (AsT i) (AsQ i) s l (AtO i.Ad) (At3 (II i)) (Eb i.Ad) (Md i.Ad) i.Du (ArK i) i.Ey i.Ez)) none) none) none) ((h ⟨u,F,⟨y⟩,⟨A,B,C,D,E,v⟩,G,H,I⟩ s.CP n w).bind fun t=>cond (s.CP.Au == 5) (cond (Aup n) (cond (Ic ((0+m.length)*24)) (cond (Ic ((m.length+1)*24)) (Aux (a ⟨t,o,p,m++[(⟨s.CP.BK,w,J⟩:KE)],q⟩ n r)) none) none) (Aux (a ⟨t,o,p,m,q⟩ n r))) (Aux (a ⟨t,o,p,m,q⟩ n r))))
def jy:ArS WAW Cm
 |0,_=>none
 |m+1,s=>EAi WQ TG jm Ql aC Ur X0 Un (jy m) s
def Uo:Atm:=jw WQ TG jm Ql aC Ur X0 Un (jy AX)
def QBT:Arb:=fy u3 Uo ARr rY [NAt,ZBS,KBT,IBB,VA9,BAs,HBB,OBT] Tryz.func164 PBT EAi jw jy [0]
inductive XAW where
 |c0 (a:Int) (b d:Bf)
def RBT:XAW->Asu
 |.c0 d a b=>(tdo Tryz.f50 464,[vp 2 128,vp 3 192,vi 5 d],[(128,.var [.str a.Bv,li a.DR,.BH 46 a.Ag,li a.BR,.str a.Dp,li a.fCount]),(192,.var [.str b.Bv,li b.DR,.BH 46 b.Ag,li b.BR,.str b.Dp,li b.fCount])])
def NAx (k:AsB XAW Bool):Rx:=fun a b=>mk (cond (!(EZ a.Bv b.Bv)) (some false) (cond ((Aud a) != (Aud b)) (some false) (cond (a.BR != b.BR) (some false) (cond (!(EZ (Jb a) (Jb b))) (some false) (cond (a.fCount != b.fCount) (some false) (cond ((KU a) != (KU b)) (some false) (k (.c0 0 a b))))))))
def FAi (k:AsB XAW Bool):AsB XAW Bool
 |.c0 a b c=>mk (cond (Gv a (Gt b)) (cond (Nb a b) (cond (Nb a c) (cond (!(((Ja (At3 b) a ⟨0,0,false,false,false,false,IK,0⟩).fId == (Ja (At3 c) a ⟨0,0,false,false,false,false,IK,0⟩).fId) && (((Ja (At3 b) a ⟨0,0,false,false,false,false,IK,0⟩).Aa == (Ja (At3 c) a ⟨0,0,false,false,false,false,IK,0⟩).Aa) && (((Tf (Ja (At3 b) a ⟨0,0,false,false,false,false,IK,0⟩)) == (Tf (Ja (At3 c) a ⟨0,0,false,false,false,false,IK,0⟩))) && (((Arh (Ja (At3 b) a ⟨0,0,false,false,false,false,IK,0⟩)) == (Arh (Ja (At3 c) a ⟨0,0,false,false,false,false,IK,0⟩))) && (((ArW (Ja (At3 b) a ⟨0,0,false,false,false,false,IK,0⟩)) == (ArW (Ja (At3 c) a ⟨0,0,false,false,false,false,IK,0⟩))) && (((As4 (Ja (At3 b) a ⟨0,0,false,false,false,false,IK,0⟩)) == (As4 (Ja (At3 c) a ⟨0,0,false,false,false,false,IK,0⟩))) && ((EZ (AtN (Ja (At3 b) a ⟨0,0,false,false,false,false,IK,0⟩)) (AtN (Ja (At3 c) a ⟨0,0,false,false,false,false,IK,0⟩))) && (((Ja (At3 b) a ⟨0,0,false,false,false,false,IK,0⟩).fNext == (Ja (At3 c) a ⟨0,0,false,false,false,false,IK,0⟩).fNext) && true))))))))) (some false) (k (.c0 (NM a) b c))) none) none) (some true))
def kC:ArS XAW Bool
 |0,_=>none
 |m+1,s=>FAi (kC m) s
def vW:Rx:=NAx (kC AX)
def SBT:Arb:=fy u2 vW AIL GK [] Tryz.func50 RBT FAi NAx kC
inductive ZAW where
 |c0 (a:(List Aq)) (b:Int) (d:AA) (e f:Int) (g:AA) (h:Int) (i:AA) (j l:Int) (n:AA) (o:Int) (p q:(List Ah))
def TBT:ZAW->Asu
 |.c0 a b d e f g h i j l n o p q=>(tdo Tryz.f111 464,[vr 1 48 a,vp 4 256,vp 6 384,vi 7 b],[(256,.var [.str d,li e,.own 1016386,li f,.str g,li h]),(384,.var [.str i,li j,.own 1024578,li l,.str n,li o]),(1016386,.sl 46 p),(1024578,.sl 46 q)])
def OAx (b:AuQ) (e:Asm) (k:AsB ZAW (Bf×Bool)):qM:=fun c d=>mk ((b c).bind fun a=>k (.c0 d 0 IK 0 0 IK 0 a.Bv (Aud a) a.BR (Jb a) a.fCount [] (At3 a)))
def HAi (a:AuQ) (b:Asm) (k:AsB ZAW (Bf×Bool)):AsB ZAW (Bf×Bool)
 |.c0 e d m n o p q f g i j l r h=>mk (cond (Gv d e.length) (cond (AtW d e.length) ((b ⟨f,g,h,i,j,l⟩ (VJ e d IK ⟨0,0,false,false,false,false,IK,0⟩)).bind fun c=>cond (!c.2) (some (Auj,false)) (k (.c0 e (NM d) m n o p q c.1.Bv (Aud c.1) c.1.BR (Jb c.1) c.1.fCount r (At3 c.1)))) none) (some (⟨f,g,h,i,j,l⟩,true)))
def kD:ArS ZAW (Bf×Bool)
 |0,_=>none
 |m+1,s=>HAi YV Ur (kD m) s
def IAi:qM:=OAx YV Ur (kD AX)
def UBT:Arb:=fy u2 IAi ARs ACZ [XAr,BAs] Tryz.func111 TBT HAi OAx kD
def PAx (h:OJ) (i:Yw) (j:Yz) (m:P8) (n:qM) (o:Td):Aul:=fun l d=>mk ((h d).bind fun e=>cond (!e) (some (Auj,[],false)) ((i d AuW).bind fun a=>(j l a.1).bind fun b=>m.bind fun f=>(n f b.1).bind fun c=>cond (!c.2) (some (Auj,[],false)) ((o d O6).bind fun g=>cond (Aue g) (cond (ArF b.2 (Aq5 a.1)) (cond (Jf b.2 (Aq5 a.1)) (some (c.1,WAq a.1 b.2,true)) none) (some (c.1,[⟨4,O6,IK,IK⟩],true))) (cond (ArF b.2 (Aq5 a.1)) (cond (Jf b.2 (Aq5 a.1)) (some (c.1,[⟨1,O6,QD a.1 b.2,IK⟩,⟨2,O6,IK,IK⟩,⟨3,O6,IK,AuW⟩],true)) none) (some (c.1,[],true))))))
def kE:Aul:=PAx Wu jf jh AtY IAi oK
def KBB:Arb:=BF u2 kE ARt ARu [XAf,FBB,GBB,zY,UBT,RAs] Tryz.func52 PAx
inductive AAz where
 |c0 (a:Int) (b:Aj)
def VBT:AAz->Asu
 |.c0 b a=>(tdo Tryz.f54 208,[vp 1 64,vi 3 b],[(64,.var [.str a.BN,.bool a.Bj,.BH 140 a.Bd.Ai,.str a.AV.Bv,li a.AV.DR,.BH 46 a.AV.Ag,li a.AV.BR,.str a.AV.Dp,li a.AV.fCount,.BH 67 a.BI,.BH 73 a.BJ,li a.CU])])
def QAx (b:At1) (c:As1) (k:AsB AAz Bool):Na:=fun a=>k (.c0 0 a)
def JAi (a:At1) (b:As1) (k:AsB AAz Bool):AsB AAz Bool
 |.c0 c d=>mk (cond (Gv c (Tn d)) (cond (AtW c (Tn d)) ((a (As9 d) (Ary (Md d) c).fId).bind fun e=>cond (!e.2) (some false) (cond (e.1.Aa != 2) (some false) (cond (AtW c (Tn d)) ((b (Ary (Md d) c).fNext 0 e.1.fNext).bind fun f=>cond (!f) (some false) (cond (Rn c) (cond (AtI (Nq c) (Tn d:Int)) (cond (AtW c (Tn d)) (cond (At5 ((Md d).getD (Ub (c - 1)) PAe).fId (Ary (Md d) c).fId) (some false) (k (.c0 (NM c) d))) none) none) (k (.c0 (NM c) d)))) none))) none) (some true))
def kF:ArS AAz Bool
 |0,_=>none
 |m+1,s=>JAi U9 AuU (kF m) s
def vX:Na:=QAx U9 AuU (kF AX)
def WBT:Arb:=fy u1 vX QN GK [zk,Jm] Tryz.func54 VBT JAi QAx kF
inductive CAX where
 |c0 (a:Int) (b:Aj)
def XBT:CAX->Asu
 |.c0 b a=>(tdo Tryz.f13 464,[vp 1 64,vi 3 b],[(64,.var [.str a.BN,.bool a.Bj,.BH 140 a.Bd.Ai,.str a.AV.Bv,li a.AV.DR,.BH 46 a.AV.Ag,li a.AV.BR,.str a.AV.Dp,li a.AV.fCount,.BH 67 a.BI,.BH 73 a.BJ,li a.CU])])
def RAx (d:OJ) (e:As1) (f:P8) (g:Rx) (h:Aul) (i:Tj) (j:Na) (k:AsB CAX Bool):Na:=fun a=>mk (cond ((Aq5 a.BN) != 32) (some false) ((d a.Bd).bind fun b=>cond (!b) (some false) (cond ((He a:Int) > 3) (some false) ((e (Asn a) 0 1000).bind fun c=>cond (!c) (some false) (k (.c0 0 a))))))
def KAi (a:OJ) (b:As1) (c:P8) (d:Rx) (e:Aul) (f:Tj) (g:Na) (k:AsB CAX Bool):AsB CAX Bool
 |.c0 i h=>mk (cond (Gv i (He h)) (cond (AtW i (He h)) ((b (KT (Eb h) i ⟨0,false⟩).fId 1 (Asn h)).bind fun l=>cond (!l) (some false) (cond (Rn i) (cond (AtI (Nq i) (He h:Int)) (cond (AtW i (He h)) (cond (At5 ((Eb h).getD (Ub (i - 1)) (⟨0,false⟩:EC)).fId (KT (Eb h) i ⟨0,false⟩).fId) (some false) (k (.c0 (NM i) h))) none) none) (k (.c0 (NM i) h)))) none) (JZ (!h.Bj) (JZ (QA h) (JZ (Aup (Tn h:Int)) (c.bind fun m=>Oo (d (As9 h) m)) (some false)) (some false)) ((e h.BN h.Bd).bind fun j=>JZ j.2.2 (JZ (Aup (j.2.1.length:Int)) (Au1 (f (As9 h)) (Au1 (d j.1 (As9 h)) (Oo (g h)) (some false)) (some false)) (some false)) (some false))))
def kG:ArS CAX Bool
 |0,_=>none
 |m+1,s=>KAi Wu AuU AtY vW kE cu vX (kG m) s
def aF:Na:=RAx Wu AuU AtY vW kE cu vX (kG AX)
def LBB:Arb:=fy u1 aF QN GK [XAf,Jm,zY,SBT,KBB,MA9,WBT] Tryz.func13 XBT KAi RAx kG
def SAx (e:Na) (f:Aul) (g:AvN):dP:=fun a=>mk (cond a.Bj (some (⟨IK,false,GZ,Auj,[],[],0⟩,false)) ((e a).bind fun d=>cond (!d) (some (⟨IK,false,GZ,Auj,[],[],0⟩,false)) ((f a.BN a.Bd).bind fun b=>(g a.Bd b.2.1).bind fun c=>cond (!b.2.2) (some (⟨IK,false,GZ,Auj,[],[],0⟩,false)) (cond (ArF c.2 (b.2.1.length:Int)) (some (⟨IK,false,GZ,Auj,[],[],0⟩,false)) (some (⟨a.BN,true,c.1,b.1,[],[],0⟩,true))))))
def vY:dP:=SAx aF kE WZ
def YBT:Arb:=BF u1 vY QN AIR [LBB,KBB,DAg] Tryz.func165 SAx
def TAx (e:Atm) (g:dP) (d:dS):Atm:=fun a f c=>mk (cond (!c.MV) (Aux (e a f c)) ((g a.Ad).bind fun b=>cond (!b.2) (Aux (d a 1 IK)) (Aux (d ⟨b.1,a.Du,ArK a,a.Ey,a.Ez⟩ 0 IK))))
def Uu:Atm:=TAx Uo vY WQ
def MBB:Arb:=BF u3 Uu ARr rY [QBT,YBT,NAt] Tryz.func116 TAx [0]
inductive EAX where
 |c0 (a b:Int) (d e:Int) (f g:AA) (h i j:AA) (l:Bool) (n:AA) (o p:Int) (q:AA) (t u:Int) (v w:(List EN)) (x:(List BQ)) (y:(List Ah)) (aa:(List EC)) (ab:(List Cc)) (ac:(List Int)) (ad:(List AA)) (ae:(List KE)) (af:(List Aq))
def ZBT:EAX->Asu
 |.c0 a b d e f g h i j l n o p q t u v w x y aa ab ac ad ae af=>(tdo Tryz.f59 4048,[vp 0 0,vp 4 256,vp 5 320,vp 6 384,vi 8 a,vi 9 b],[(0,.var [.Ji,li d,li e]),(256,.var [.str f,.str g,.own 1016386]),(320,.var [.str h,.str i,.own 1020482]),(384,.var [.str j,.bool l,.own 1024578,.str n,li o,.own 1024581,li p,.str q,li t,.own 1024585,.own 1024586,li u,.own 1024588,.own 1024589,.own 1024590,.own 1024591]),(1016386,.sl 154 v),(1020482,.sl 154 w),(1024578,.sl 140 x),(1024581,.sl 46 y),(1024585,.sl 67 aa),(1024586,.sl 73 ab),(1024588,.sl 3 ac),(1024589,.sl 9 ad),(1024590,.sl 243 ae),(1024591,.sl 48 af)])
def UAx (d:Ti) (f:Yh) (g:pU) (h:XAd) (i:Atm) (k:AsB EAX (OW×C9)):APm:=fun e j=>mk ((d (Asw e) 3).bind fun b=>(f 32 (w8 (FN (75+b.1)))).bind fun c=>(g c ⟨#[119]⟩).bind fun a=>cond ((FN (8+(FN ((NZ Jq).tdiv 12)))) > 39) (k (.c0 39 0 b.2.fI b.2.fH IK IK c ⟨#[119]⟩ (AtV a.1) a.1.Ad.Bj (Tt a.1) (Ut a.1) (AvC a.1) (Jb (II a.1)) (AsT a.1) (AsQ a.1) [] [] (AtO a.1.Ad) (At3 (II a.1)) (Eb a.1.Ad) (Md a.1.Ad) a.1.Du (ArK a.1) a.1.Ey a.1.Ez)) (k (.c0 (FN (8+(FN ((NZ Jq).tdiv 12)))) 0 b.2.fI b.2.fH IK IK c ⟨#[119]⟩ (AtV a.1) a.1.Ad.Bj (Tt a.1) (Ut a.1) (AvC a.1) (Jb (II a.1)) (AsT a.1) (AsQ a.1) [] [] (AtO a.1.Ad) (At3 (II a.1)) (Eb a.1.Ad) (Md a.1.Ad) a.1.Du (ArK a.1) a.1.Ey a.1.Ez)))
def LAi (a:Ti) (b:Yh) (c:pU) (d:XAd) (e:Atm) (k:AsB EAX (OW×C9)):AsB EAX (OW×C9)
 |.c0 l i o p q r m n t u w x z A B E s j v y C D F G H I=>mk (cond (ArF i l) ((d ⟨(),o,p⟩ ⟨⟨t,u,⟨v⟩,⟨w,x,y,z,A,B⟩,C,D,E⟩,F,G,H,I⟩).bind fun f=>cond ((Aq5 f.1.CP.fText) > 1000) ((e f.2.2 i ⟨SAe f.1.CP,f.1.RN,f.1.QK,f.1.MV⟩).bind fun g=>cond (Ic ((j.length+1)*96)) (k (.c0 l (NM i) f.2.1.fI f.2.1.fH q r m n (AtV g) g.Ad.Bj (Tt g) (Ut g) (AvC g) (Jb (II g)) (AsT g) (AsQ g) s (j++[(⟨SAe f.1.CP,f.1.RN,f.1.QK,f.1.MV⟩:EN)]) (AtO g.Ad) (At3 (II g)) (Eb g.Ad) (Md g.Ad) g.Du (ArK g) g.Ey g.Ez)) none) ((e f.2.2 i f.1).bind fun h=>cond (Ic ((j.length+1)*96)) (k (.c0 l (NM i) f.2.1.fI f.2.1.fH q r m n (AtV h) h.Ad.Bj (Tt h) (Ut h) (AvC h) (Jb (II h)) (AsT h) (AsQ h) s (j++[f.1]) (AtO h.Ad) (At3 (II h)) (Eb h.Ad) (Md h.Ad) h.Du (ArK h) h.Ey h.Ez)) none)) (some (⟨m,n,j⟩,⟨(),o,p⟩)))
def X6:ArS EAX (OW×C9)
 |0,_=>none
 |m+1,s=>LAi Au3 bT aJ tN Uu (X6 m) s
def MAi:APm:=UAx Au3 bT aJ tN Uu (X6 AX)
def AlQ:Arb:=fy u2 MAi ARv AbO [eY,ZA8,WA9,OBP,MBB] Tryz.func59 ZBT LAi UAx X6 [0]
def VAx (b:As1):Y0:=fun a=>mk (Au1 (b a.Au 1 13) (Au1 (b (Atp a) 0 1000) (Au1 (b a.BK 0 1000) (Au1 (b a.Aa 0 3) (some (decide ((Aq5 a.fText)<=1000))) (some false)) (some false)) (some false)) (some false))
def NAi:Y0:=VAx AuU
def BBU:Arb:=BF u1 NAi AIM GK [Jm] Tryz.func167 VAx
def NBB:Y0:=fun a=>mk (some ((Aup a.Au) && ((Aup (Atp a)) && ((Aup a.BK) && ((Aup a.Aa) && ((EZ a.fText IK) && ((a.CY == false) && ((a.CZ == false) && true))))))))
def WAx:Y0:=NBB
def CBU:Arb:=BF u1 WAx AIM GK [] Tryz.func168 NBB
def XAx (b c:Y0):GAe:=fun a=>mk (JZ ((NZ a.QK)<=30) (Au1 (b a.CP) (some true) (JZ a.MV (Oo (c a.CP)) (some false))) (some false))
def wZ:GAe:=XAx NAi WAx
def DBU:Arb:=BF u1 wZ AbP GK [BBU,CBU] Tryz.func117 XAx
inductive kJ where
 |c0 (a:(List EN)) (an:Bool) (ao:Int) (b:AA) (d:Bool) (e:AA) (f g:Int) (h:AA) (i j:Int) (l:AA) (n:Bool) (o:AA) (p q:Int) (t:AA) (u v:Int) (w:(List BQ)) (x:(List Ah)) (y:(List EC)) (aa:(List Cc)) (ab:(List Int)) (ac:(List AA)) (ad:(List KE)) (ae:(List Aq)) (af:(List BQ)) (ag:(List Ah)) (Asz:(List EC)) (ai:(List Cc)) (ArJ:(List Int)) (ACN:(List AA)) (al:(List KE)) (am:(List Aq))
 |c1 (a:(List EN)) (ap:Int) (b:AA) (d:Bool) (e:AA) (f g:Int) (h:AA) (i j:Int) (l:AA) (n:Bool) (o:AA) (p q:Int) (t:AA) (u v:Int) (w:(List BQ)) (x:(List Ah)) (y:(List EC)) (aa:(List Cc)) (ab:(List Int)) (ac:(List AA)) (ad:(List KE)) (ae:(List Aq)) (af:(List BQ)) (ag:(List Ah)) (Asz:(List EC)) (ai:(List Cc)) (ArJ:(List Int)) (ACN:(List AA)) (al:(List KE)) (am:(List Aq))
def EBU:kJ->Asu
 |.c0 a an ao b d e f g h i j l n o p q t u v w x y aa ab ac ad ae af ag Asz ai ArJ ACN al am=>(tdo Tryz.f60 464,[vr 2 154 a,vp 6 384,vp 8 512,vb 9 an,vi 10 ao],[(384,.var [.str b,.bool d,.own 1024578,.str e,li f,.own 1024581,li g,.str h,li i,.own 1024585,.own 1024586,li j,.own 1024588,.own 1024589,.own 1024590,.own 1024591]),(512,.var [.str l,.bool n,.own 1032770,.str o,li p,.own 1032773,li q,.str t,li u,.own 1032777,.own 1032778,li v,.own 1032780,.own 1032781,.own 1032782,.own 1032783]),(1024578,.sl 140 w),(1024581,.sl 46 x),(1024585,.sl 67 y),(1024586,.sl 73 aa),(1024588,.sl 3 ab),(1024589,.sl 9 ac),(1024590,.sl 243 ad),(1024591,.sl 48 ae),(1032770,.sl 140 af),(1032773,.sl 46 ag),(1032777,.sl 67 Asz),(1032778,.sl 73 ai),(1032780,.sl 3 ArJ),(1032781,.sl 9 ACN),(1032782,.sl 243 al),(1032783,.sl 48 am)])
 |.c1 a ap b d e f g h i j l n o p q t u v w x y aa ab ac ad ae af ag Asz ai ArJ ACN al am=>(tdo Tryz.f60 2000,[vr 2 154 a,vp 6 384,vp 8 512,vi 11 ap],[(384,.var [.str b,.bool d,.own 1024578,.str e,li f,.own 1024581,li g,.str h,li i,.own 1024585,.own 1024586,li j,.own 1024588,.own 1024589,.own 1024590,.own 1024591]),(512,.var [.str l,.bool n,.own 1032770,.str o,li p,.own 1032773,li q,.str t,li u,.own 1032777,.own 1032778,li v,.own 1032780,.own 1032781,.own 1032782,.own 1032783]),(1024578,.sl 140 w),(1024581,.sl 46 x),(1024585,.sl 67 y),(1024586,.sl 73 aa),(1024588,.sl 3 ab),(1024589,.sl 9 ac),(1024590,.sl 243 ad),(1024591,.sl 48 ae),(1032770,.sl 140 af),(1032773,.sl 46 ag),(1032777,.sl 67 Asz),(1032778,.sl 73 ai),(1032780,.sl 3 ArJ),(1032781,.sl 9 ACN),(1032782,.sl 243 al),(1032783,.sl 48 am)])
def YAx (b:pU) (f:GAe) (g:Atm) (h:MG) (k:AsB kJ (Cm×Bool)):BAq:=fun c d e=>mk ((b c d).bind fun a=>k (.c0 e a.2 0 IK false IK 0 0 IK 0 0 (AtV a.1) a.1.Ad.Bj (Tt a.1) (Ut a.1) (AvC a.1) (Jb (II a.1)) (AsT a.1) (AsQ a.1) [] [] [] [] [] [] [] [] (AtO a.1.Ad) (At3 (II a.1)) (Eb a.1.Ad) (Md a.1.Ad) a.1.Du (ArK a.1) a.1.Ey a.1.Ez))
def kH (a:pU) (b:GAe) (c:Atm) (d:MG) (k:AsB kJ (Cm×Bool)):AsB kJ (Cm×Bool)
 |.c0 e O f g h i j l m n o p q r s t u v w x y z A B C D E F G H I J L M N=>mk (cond (Gv f e.length) (cond O (cond ((e.length:Int)<=40) (cond (AtW f e.length) ((b (e.getD (IZ f) (⟨⟨0,0,0,0,IK,false,false⟩,false,[],false⟩:EN))).bind fun P=>k (.c0 e P (NM f) g h i j l m n o p q r s t u v w x y z A B C D E F G H I J L M N)) none) (k (.c0 e false (NM f) g h i j l m n o p q r s t u v w x y z A B C D E F G H I J L M N))) (cond (!O) (some (⟨⟨IK,false,GZ,Auj,[],[],0⟩,[],[],[],[]⟩,false)) (k (.c1 e 0 g h i j l m n o p q r s t u v w x y z A B C D E F G H I J L M N)))) (cond (!O) (some (⟨⟨IK,false,GZ,Auj,[],[],0⟩,[],[],[],[]⟩,false)) (k (.c1 e 0 g h i j l m n o p q r s t u v w x y z A B C D E F G H I J L M N))))
 |.c1 g f z A B C D E F G h i l m o p q t H I J L M N O P j n r s u v w x=>mk (cond (Gv f g.length) (cond (AtW f g.length) ((c ⟨⟨h,i,⟨j⟩,⟨l,m,n,o,p,q⟩,r,s,t⟩,u,v,w,x⟩ f (g.getD (IZ f) (⟨⟨0,0,0,0,IK,false,false⟩,false,[],false⟩:EN))).bind fun e=>k (.c1 g (NM f) z A B C D E F G (AtV e) e.Ad.Bj (Tt e) (Ut e) (AvC e) (Jb (II e)) (AsT e) (AsQ e) H I J L M N O P (AtO e.Ad) (At3 (II e)) (Eb e.Ad) (Md e.Ad) e.Du (ArK e) e.Ey e.Ez)) none) ((d ⟨h,i,⟨j⟩,⟨l,m,n,o,p,q⟩,r,s,t⟩).bind fun y=>some (⟨y,u,v,w,x⟩,true)))
def WY:ArS kJ (Cm×Bool)
 |0,_=>none
 |m+1,s=>kH aJ wZ Uu X3 (WY m) s
def vZ:BAq:=YAx aJ wZ Uu X3 (WY AX)
def FBU:Arb:=fy u3 vZ AbQ ASF [WA9,DBU,MBB,JBB] Tryz.func60 EBU kH YAx WY
def ZAx (c:APm) (e:BAq):CAq:=fun d f=>mk ((c (Asw d) ()).bind fun a=>(e a.1.BN a.1.Bv a.1.rG).bind fun b=>some (b.1.Ad,Asw a.2))
def OAi:CAq:=ZAx MAi vZ
def GBU:Arb:=BF u2 OAi ARv AbR [AlQ,FBU] Tryz.func19 ZAx [0]
def ALU (d:OAp) (e:CAq) (f:WAd):HAe:=fun g=>mk ((d ()).bind fun c=>(e (Asw c) ()).bind fun a=>(f (Asw a.2) a.1 ⟨#[119]⟩).bind fun b=>cond ((Aq5 b.1.fText) > 1000) (some (a.1,SAe b.1)) (some (a.1,b.1)))
def vk:HAe:=ALU BAf OAi tJ
def HBU:Arb:=BF u1 vk sG AbS [TBN,GBU,YA9] Tryz.func5 ALU
def OBB:As1:=fun a b c=>mk (JZ (At5 a b) (some (GN a c)) (some false))
def Je:As1:=OBB
def Qk:Arb:=BF u3 Je AR4 GK [] Tryz.func33 OBB
inductive IAX where
 |c0 (a:(List BQ)) (b d:Int) (e:BO)
def IBU:IAX->Asu
 |.c0 a b d e=>(tdo Tryz.f43 104,[vp 1 64,vr 6 140 a,vi 7 b,vi 8 d],[(64,.var [.BH 140 e.Ai])])
def BAy (b:As1) (k:AsB IAX Bool):OJ:=fun a=>mk (k (.c0 a.Ai (Lj a:Int) 0 a))
def PAi (a:As1) (k:AsB IAX Bool):AsB IAX Bool
 |.c0 c e b d=>mk (cond (ArF b e) (cond (AtW b c.length) ((a (Aq5 (c.getD (IZ b) ArQ).fName) 1 8).bind fun f=>cond (!f) (some false) (cond ((Aq5 (c.getD (IZ b) ArQ).fText) > 20000) (some false) ((a (c.getD (IZ b) ArQ).Jp 0 (Aq5 (c.getD (IZ b) ArQ).fText)).bind fun g=>cond (!g) (some false) (cond (Rn b) (cond (AtI (Nq b) (Lj d:Int)) (cond (!(pI (d.Ai.getD (Ub (b - 1)) ArQ) (c.getD (IZ b) ArQ))) (some false) (k (.c0 c e (NM b) d))) none) (k (.c0 c e (NM b) d)))))) none) (some (decide ((Lj d:Int)<=30))))
def kN:ArS IAX Bool
 |0,_=>none
 |m+1,s=>PAi Je (kN m) s
def aV:OJ:=BAy Je (kN AX)
def CAy:Arb:=fy u1 aV AIQ GK [Qk] Tryz.func43 IBU PAi BAy kN
def PBB:Au9:=mk (FI UAq)
def DAy:Au9:=PBB
def JBU:Arb:=BF u0 DAy Xb ACT [] Tryz.func71 PBB
def EAy:QZ:=fun a=>mk (FH ((RAe a) && (Ic ((IZ a)*1))) (Ll (Q7 a)))
def YD:QZ:=EAy
def QAi:Arb:=BF u1 YD E5 CS [] Tryz.func102 EAy
def FAy:QZ:=fun a=>mk (Ll [w8 (VR a (24:Int)),w8 (VR a (16:Int)),w8 (VR a (8:Int)),w8 a])
def Wv:QZ:=FAy
def RAi:Arb:=BF u1 Wv SV CS [] Tryz.func93 FAy
def GAy (c:QZ):QZ:=fun d=>mk ((c (w32 (OM d (Q8 (32:Int))))).bind fun a=>(c (w32 d)).bind fun b=>FH (AsU a b) (some (a++b)))
def SAi:QZ:=GAy Wv
def KBU:Arb:=BF u1 SAi E5 CS [RAi] Tryz.func128 GAy
def HAy (d e:QZ):QZ:=fun c=>mk ((d ((FN (119 - (c.tmod 64))).tmod 64)).bind fun a=>FH (AsU (Arl ⟨#[128]⟩) a) ((e (FN (8*c))).bind fun b=>FH (Hr (Arl ⟨#[128]⟩) a b) (some (((Arl ⟨#[128]⟩)++a)++b))))
def TAi:QZ:=HAy YD SAi
def LBU:Arb:=BF u1 TAi E5 CS [QAi,KBU] Tryz.func72 HAy
def IAy:AsW:=fun b a=>mk (cond (AuS (Atq (32 - (TAe a)))) (some (w32 (Y4 Arp (w32 (b*(MN (IZ (TAe a)) Arp))) (VR b (Atq (32 - (TAe a))))))) none)
def UAi:AsW:=IAy
def MBU:Arb:=BF u2 UAi ARw SV [] Tryz.func218 IAy
def JAy (b:AsW):AsW:=fun c d=>mk ((b c (FN (0 - d))).bind fun a=>some a)
def NT:AsW:=JAy UAi
def QBB:Arb:=BF u2 NT ARw SV [MBU] Tryz.func174 JAy
inductive JAX where
 |c0 (d:AA) (e:Int) (a b:(List Int))
 |c1 (d:AA) (f e g:Int) (a b:(List Int))
 |c2 (h:Int) (a b:(List Int))
def NBU:JAX->Asu
 |.c0 d e a b=>(tdo Tryz.f173 232,[vs 0 d,vp 2 128,vp 3 192,vi 11 e],[(128,.ar 115 a),(192,.ar 115 b)])
 |.c1 d f e g a b=>(tdo Tryz.f173 59800,[vs 0 d,vp 2 128,vp 3 192,vi 4 f,vi 11 e,vi 14 g],[(128,.ar 115 a),(192,.ar 115 b)])
 |.c2 h a b=>(tdo Tryz.f173 976,[vp 2 128,vp 3 192,vi 6 h],[(128,.ar 115 a),(192,.ar 115 b)])
def KAy (b:AsW) (k:AsB JAX (List Int)):ArT:=fun a=>mk (k (.c0 a 0 (List.replicate 64 La) (List.replicate 64 La)))
def YZ (a:AsW) (k:AsB JAX (List Int)):AsB JAX (List Int)
 |.c0 e b c d=>mk (cond (b<16) (k (.c1 e b b 0 c d)) (k (.c2 16 c d)))
 |.c1 e c f d g b=>mk (cond (d<4) (cond (Q9 b) (cond (AvD c b) (cond (AtI (D7 (FN (4*c)) d) (Aq5 e)) (cond (Q9 b) (cond (AvD c b) (k (.c1 e c f (NM d) g (b.set (IZ c) (w32 (Y4 Arp (w32 ((Arc b c)*(MN (IZ (8:Int)) Arp))) (w32 (bt e (D7 (FN (4*c)) d)))))))) none) none) none) none) none) (k (.c0 e (NM f) g b)))
 |.c2 c h b=>mk (cond (c<64) (cond (Q9 b) (cond (Jc (c - 15) b) (cond (Q9 b) (cond (Jc (c - 2) b) ((a (Jd b (c - 15)) 7).bind fun d=>(a (Jd b (c - 15)) 18).bind fun e=>(a (Jd b (c - 2)) 17).bind fun f=>(a (Jd b (c - 2)) 19).bind fun g=>cond (Q9 b) (cond (Jc (c - 7) b) (cond (Q9 b) (cond (Jc (c - 16) b) (cond (Q9 b) (cond (AvD c b) (k (.c2 (NM c) h (b.set (IZ c) (w32 ((w32 ((w32 ((OT Arp (OT Arp f g) (OM (Jd b (c - 2)) (MN (IZ (10:Int)) Arp)))+(Jd b (c - 7))))+(OT Arp (OT Arp d e) (OM (Jd b (c - 15)) (MN (IZ (3:Int)) Arp)))))+(Jd b (c - 16))))))) none) none) none) none) none) none) none) none) none) none) (Ard (Q9 b) (Ard ((Aq6 b h) && (Q9 b)) (Ard ((Q9 b) && true) (FI b)))))
def P6:ArS JAX (List Int)
 |0,_=>none
 |m+1,s=>YZ NT (P6 m) s
def yJ:ArT:=KAy NT (P6 AX)
def OBU:Arb:=fy u1 yJ CS ACT [QBB] Tryz.func173 NBU YZ KAy P6
inductive LAX where
 |c0 (d e:Int) (f g:Int) (h i:Int) (j l n:Int) (a b o:(List Int))
 |c1 (p:Int) (a b q:(List Int))
def PBU:LAX->Asu
 |.c0 d e f g h i j l n a b o=>(tdo Tryz.f127 488,[vp 2 128,vp 4 256,vp 5 320,(6,[.one (.int .u32 d)]),(7,[.one (.int .u32 e)]),(8,[.one (.int .u32 f)]),(9,[.one (.int .u32 g)]),(10,[.one (.int .u32 h)]),(11,[.one (.int .u32 i)]),(12,[.one (.int .u32 j)]),(13,[.one (.int .u32 l)]),vi 37 n],[(128,.ar 115 a),(256,.ar 115 b),(320,.ar 115 o)])
 |.c1 p a b q=>(tdo Tryz.f127 2024,[vp 2 128,vp 4 256,vp 17 1088,vi 109 p],[(128,.ar 115 a),(256,.ar 115 b),(1088,.ar 115 q)])
def LAy (c:ArT) (e:AsW) (k:AsB LAX (List Int)):IAe:=fun a d=>mk ((c d).bind fun b=>cond ((Aq6 b (List.replicate 64 La)) && (Q9 b)) (cond (AsE a) (cond (UC a) (cond (AsE a) (cond (zO (NZ a)) (cond (AsE a) (cond (zK (NZ a)) (cond (AsE a) (cond ((GN La (3:Int)) && (decide (3<(NZ a)))) (cond (AsE a) (cond (zL a) (cond (AsE a) (cond ((GN La (5:Int)) && (decide (5<(NZ a)))) (cond (AsE a) (cond ((GN La (6:Int)) && (decide (6<(NZ a)))) (cond (AsE a) (cond ((GN La (7:Int)) && (decide (7<(NZ a)))) (k (.c0 (Arc a La) (Arc a ArE) (Arc a (2:Int)) (Arc a (3:Int)) (Arc a AuL) (Arc a (5:Int)) (Arc a (6:Int)) (Arc a (7:Int)) 0 a [0,0,0,0,0,0,0,0] b)) none) none) none) none) none) none) none) none) none) none) none) none) none) none) none) none) none)
def yK (a:ArT) (b:AsW) (k:AsB LAX (List Int)):AsB LAX (List Int)
 |.c0 e i j s d g h o c t u f=>mk (cond (c<64) ((b d 6).bind fun l=>(b d 11).bind fun m=>(b d 25).bind fun n=>cond (AtW c (64:Nat)) (cond (Nat.blt (IZ c) 64) (cond (Q9 f) (cond (AvD c f) ((b e 2).bind fun p=>(b e 13).bind fun q=>(b e 22).bind fun r=>k (.c0 (w32 ((w32 ((w32 ((w32 ((w32 (o+(OT Arp (OT Arp l m) n)))+(dn (O4 Arp d g) (O4 Arp (w32 ((BitVec.toNat ((BitVec.ofInt Arp (ite ((IntKind.signed IntKind.u32) = true) (-ArE) (IntKind.max IntKind.u32))) ^^^ (BitVec.ofInt Arp d)):Nat):Int)) h))))+(Arc NAq c)))+(Arc f c)))+(w32 ((OT Arp (OT Arp p q) r)+(dn (Arj Arp (w32 (O4 Arp e i)) (w32 (O4 Arp e j))) (O4 Arp i j)))))) e i j (w32 (s+(w32 ((w32 ((w32 ((w32 (o+(OT Arp (OT Arp l m) n)))+(dn (O4 Arp d g) (O4 Arp (w32 ((BitVec.toNat ((BitVec.ofInt Arp (ite ((IntKind.signed IntKind.u32) = true) (-ArE) (IntKind.max IntKind.u32))) ^^^ (BitVec.ofInt Arp d)):Nat):Int)) h))))+(Arc NAq c)))+(Arc f c))))) d g h (NM c) t u f)) none) none) none) none) (k (.c1 0 t u [e,i,j,s,d,g,h,o])))
 |.c1 d e f c=>mk (cond (d<8) (cond (AsE c) (cond (AvD d c) (cond (AsE e) (cond (AvD d e) (cond (AsE c) (cond (AvD d c) (k (.c1 (NM d) e f (c.set (IZ d) (w32 ((Arc c d)+(Arc e d)))))) none) none) none) none) none) none) (Ard (AsE c) (Ard ((Aq6 c f) && (AsE c)) (Ard ((AsE c) && true) (FI c)))))
def TS:ArS LAX (List Int)
 |0,_=>none
 |m+1,s=>yK yJ NT (TS m) s
def yL:IAe:=LAy yJ NT (TS AX)
def QBU:Arb:=fy u2 yL AIN ACT [OBU,QBB] Tryz.func127 PBU yK LAy TS
inductive OAX where
 |c0 (a:AA) (b d:(List Int))
def RBU:OAX->Asu
 |.c0 a b d=>(tdo Tryz.f70 96,[vs 1 a,vp 2 128,vp 4 256],[(128,.ar 115 b),(256,.ar 115 d)])
def MAy (c:IAe) (k:AsB OAX (List Int×AA)):DAq:=fun b a=>k (.c0 a b [0,0,0,0,0,0,0,0])
def VAi (a:IAe) (k:AsB OAX (List Int×AA)):AsB OAX (List Int×AA)
 |.c0 c b e=>mk (cond ((Aq5 c)>=64) (cond (AsE b) (cond ((GN La (64:Int)) && (decide (64<=(Aq5 c)))) ((a b (QD c (64:Int))).bind fun d=>cond ((Aq6 d b) && (AsE d)) (cond ((GN La (64:Int)) && (decide (64<=(Aq5 c)))) (k (.c0 (O7 c (64:Int)) d e)) none) none) none) none) (cond (AsE b) (cond ((Aq6 b e) && (AsE b)) (cond ((AsE b) && true) (some (b,c)) none) none) none))
def oQ:ArS OAX (List Int×AA)
 |0,_=>none
 |m+1,s=>VAi yL (oQ m) s
def WAi:DAq:=MAy yL (oQ AX)
def SBU:Arb:=fy u2 WAi AIN AIN [QBU] Tryz.func70 RBU VAi MAy oQ
inductive PAX where
 |c0 (a:AA) (b:(List Int)) (d:Int)
def TBU:PAX->Asu
 |.c0 a b d=>(tdo Tryz.f73 232,[vs 3 a,(6,[.arr 115 b]),vi 7 d],[])
def NAy (b:QZ) (k:AsB PAX AA):Ate:=fun a=>mk (cond (AsE a) (k (.c0 IK a 0)) none)
def OAy (a:QZ) (k:AsB PAX AA):AsB PAX AA
 |.c0 e c b=>mk (cond (b<8) (cond (AsE c) (cond (AvD b c) ((a (Arc c b)).bind fun d=>cond (AsU e d) (k (.c0 (e++d) c (NM b))) none) none) none) (some e))
def yM:ArS PAX AA
 |0,_=>none
 |m+1,s=>OAy Wv (yM m) s
def XAi:Ate:=NAy Wv (yM AX)
def UBU:Arb:=fy u1 XAi ACT CS [RAi] Tryz.func73 TBU OAy NAy yM
def PAy (e:Au9) (f:QZ) (g:DAq) (h:Ate):As8:=fun c=>mk (e.bind fun d=>(f (Aq5 c)).bind fun b=>FH (AsU c b) ((g d (c++b)).bind fun a=>FH ((Nat.beq a.1.length 8) && (AsE a.1)) (FH (AsE a.1) (Lh (h a.1)))))
def KZ:As8:=PAy DAy TAi WAi XAi
def VW:Arb:=BF u1 KZ CS CS [JBU,LBU,SBU,UBU] Tryz.func26 PAy
def QAy (c:As8) (d:QZ):P8:=mk ((c IK).bind fun a=>(d 32).bind fun b=>some ⟨a,0,[],0,b,0⟩)
def aW:P8:=QAy KZ YD
def RAy:Arb:=BF u0 aW Xb ACX [VW,QAi] Tryz.func45 QAy
inductive RAX where
 |c0 (a b:(List Ah)) (d e:Int)
def VBU:RAX->Asu
 |.c0 a b d e=>(tdo Tryz.f101 232,[vr 0 46 a,vr 1 46 b,vi 12 d,vi 13 e],[])
def SAy (k:AsB RAX Bool):EAq:=fun a b=>cond ((a.length:Int) != (b.length:Int)) (some false) (k (.c0 a b (a.length:Int) 0))
def YAi (k:AsB RAX Bool):AsB RAX Bool
 |.c0 b c d a=>mk (cond (ArF a d) (cond (AtW a b.length) (cond (AtW a c.length) (cond (!(((Ja b a ⟨0,0,false,false,false,false,IK,0⟩).fId == (Ja c a ⟨0,0,false,false,false,false,IK,0⟩).fId) && (((Ja b a ⟨0,0,false,false,false,false,IK,0⟩).Aa == (Ja c a ⟨0,0,false,false,false,false,IK,0⟩).Aa) && (((Tf (Ja b a ⟨0,0,false,false,false,false,IK,0⟩)) == (Tf (Ja c a ⟨0,0,false,false,false,false,IK,0⟩))) && (((Arh (Ja b a ⟨0,0,false,false,false,false,IK,0⟩)) == (Arh (Ja c a ⟨0,0,false,false,false,false,IK,0⟩))) && (((ArW (Ja b a ⟨0,0,false,false,false,false,IK,0⟩)) == (ArW (Ja c a ⟨0,0,false,false,false,false,IK,0⟩))) && (((As4 (Ja b a ⟨0,0,false,false,false,false,IK,0⟩)) == (As4 (Ja c a ⟨0,0,false,false,false,false,IK,0⟩))) && ((EZ (AtN (Ja b a ⟨0,0,false,false,false,false,IK,0⟩)) (AtN (Ja c a ⟨0,0,false,false,false,false,IK,0⟩))) && (((Ja b a ⟨0,0,false,false,false,false,IK,0⟩).fNext == (Ja c a ⟨0,0,false,false,false,false,IK,0⟩).fNext) && true))))))))) (some false) (k (.c0 b c d (NM a)))) none) none) (some true))
def kP:ArS RAX Bool
 |0,_=>none
 |m+1,s=>YAi (kP m) s
def ZAi:EAq:=SAy (kP AX)
def WBU:Arb:=fy u2 ZAi AbT GK [] Tryz.func101 VBU YAi SAy kP
def TAy (c:EAq):Rx:=fun a b=>mk (JZ (EZ a.Bv b.Bv) (JZ ((Aud a) == (Aud b)) (Au1 (c (At3 a) (At3 b)) (JZ (a.BR == b.BR) (JZ (EZ (Jb a) (Jb b)) (some (a.fCount == b.fCount)) (some false)) (some false)) (some false)) (some false)) (some false))
def wC:Rx:=TAy ZAi
def XBU:Arb:=BF u2 wC AIL GK [WBU] Tryz.func44 TAy
inductive TAX where
 |c0 (a:AA) (b:(List BQ)) (d e:Int)
def YBU:TAX->Asu
 |.c0 a b d e=>(tdo Tryz.f106 104,[vs 1 a,vr 8 140 b,vi 9 d,vi 10 e],[])
def UAy (k:AsB TAX Int):Td:=fun a b=>mk (k (.c0 b a.Ai (Lj a:Int) 0))
def AEU (k:AsB TAX Int):AsB TAX Int
 |.c0 d b c a=>mk (cond (ArF a c) (cond (AtW a b.length) (cond (EZ (b.getD (IZ a) ArQ).fName d) (some a) (k (.c0 d b c (NM a)))) none) Au8)
def kQ:ArS TAX Int
 |0,_=>none
 |m+1,s=>AEU (kQ m) s
def aX:Td:=UAy (kQ AX)
def BAj:Arb:=fy u2 aX rX E5 [] Tryz.func106 YBU AEU UAy kQ
def VAy (c:Td):Yw:=fun b d=>mk ((c b d).bind fun a=>cond (JK a) (LZ (IK,false)) (Nc (LD a b) (LZ (ArB b a,true))))
def CAj:Yw:=VAy aX
def ZBU:Arb:=BF u2 CAj rX Hw [BAj] Tryz.func103 VAy
inductive UAX where
 |c0 (a:AA) (b d e:Int)
def Alq:UAX->Asu
 |.c0 a b d e=>(tdo Tryz.f175 976,[vs 0 a,vi 1 b,vi 7 d,vi 8 e],[])
def yQ (d:As1) (k:AsB UAX (Int×Int×Bool)):Q5:=fun c b=>mk ((d b 0 (Aq5 c)).bind fun a=>cond (!a) (some (0,0,false)) (k (.c0 c b 0 0)))
def DAj (a:As1) (k:AsB UAX (Int×Int×Bool)):AsB UAX (Int×Int×Bool)
 |.c0 d c e b=>mk (cond (b<5) (cond (ArF (D7 c b) (Aq5 d)) (cond (AtI (D7 c b) (Aq5 d)) (cond (AuS (FN (7*b))) (cond ((Auf d (D7 c b))<128) (cond (Aup (Auf d (D7 c b))) (cond (Rn b) (some (0,0,false)) (cond ((qO e d c b) > 1000000000) (some (0,0,false)) (some (qO e d c b,NM (D7 c b),true)))) (cond ((qO e d c b) > 1000000000) (some (0,0,false)) (some (qO e d c b,NM (D7 c b),true)))) (k (.c0 d c (qO e d c b) (NM b)))) none) none) (some (0,0,false))) (some (0,0,false)))
def TU:ArS UAX (Int×Int×Bool)
 |0,_=>none
 |m+1,s=>DAj Je (TU m) s
def Qq:Q5:=yQ Je (TU AX)
def EAj:Arb:=fy u2 Qq QM ASI [Qk] Tryz.func175 Alq DAj yQ TU
inductive WAX where
 |c0 (a:Int) (b:AA) (d:Int)
 |c1 (a:Int) (b:AA) (d e:Int)
def BBV:WAX->Asu
 |.c0 a b d=>(tdo Tryz.f149 208,[(0,[.one (.int .u32 a)]),vs 1 b,vi 5 d],[])
 |.c1 a b d e=>(tdo Tryz.f149 13464,[(0,[.one (.int .u32 a)]),vs 1 b,vi 5 d,vi 19 e],[])
def WAy (k:AsB WAX Int):pR:=fun a b=>k (.c0 a b 0)
def kR (k:AsB WAX Int):AsB WAX Int
 |.c0 c b a=>mk (cond (ArF a (Aq5 b)) (cond (AtI a (Aq5 b)) (k (.c1 (OT Arp c (w32 (bt b a))) b a 0)) none) (some c))
 |.c1 a c d b=>mk (cond (b<8) (cond ((w32 (VQ Arp a)) == 1) (k (.c1 (w32 ((BitVec.toNat ((BitVec.ofInt Arp (VR a ArE)) ^^^ (BitVec.ofInt Arp 3558460437)):Nat):Int)) c d (NM b))) (k (.c1 (VR a ArE) c d (NM b)))) (k (.c0 a c (NM d))))
def Ux:ArS WAX Int
 |0,_=>none
 |m+1,s=>kR (Ux m) s
def FAj:pR:=WAy (Ux AX)
def CBV:Arb:=fy u2 FAj AR9 SV [] Tryz.func149 BBV kR WAy Ux
def XAy (b:pR):Yk:=fun c=>(b 4294967295 c).bind fun a=>some a
def kU:Yk:=XAy FAj
def RBB:Arb:=BF u1 kU CS SV [CBV] Tryz.func94 XAy
inductive XAX where
 |c0 (a:AA) (b:Int) (d:(List AA))
def DBV:XAX->Asu
 |.c0 a b d=>(tdo Tryz.f150 496,[vs 0 a,vo 4 304,vi 5 b],[(304,.sl 9 d)])
def YAy (b:Q5) (c:As1) (d:Yk) (e:QZ) (k:AsB XAX (List AA×Int)):Yx:=fun a=>mk (cond ((Aq5 a) > 20000) (some ([],0)) (k (.c0 a 0 [])))
def ZAy (a:Q5) (b:As1) (c:Yk) (d:QZ) (k:AsB XAX (List AA×Int)):AsB XAX (List AA×Int)
 |.c0 f h g=>mk ((a f h).bind fun e=>cond (!e.2.2) (some (g,h)) ((b e.1 1 9000).bind fun i=>cond (!i) (some (g,h)) (cond (e.1 > (FN ((ArU (Aq5 f) e.2.1) - 4))) (some (g,h)) (cond (AuB (FN (e.2.1+4)) (FN (Ari e)) (Aq5 f)) (cond (AuB e.2.1 (FN (e.2.1+4)) (Aq5 f)) ((c (f.extract (Ub (e.2.1+4)) (Ub (Ari e)))).bind fun j=>(d j).bind fun l=>cond (!(EZ (Jl f e.2.1 (e.2.1+4)) l)) (some (g,h)) (cond (AuZ g) (k (.c0 f (FN (Ari e)) (g++[f.extract (Ub (e.2.1+4)) (Ub (Ari e))]))) none)) none) none))))
def wG:ArS XAX (List AA×Int)
 |0,_=>none
 |m+1,s=>ZAy Qq Je kU Wv (wG m) s
def wF:Yx:=YAy Qq Je kU Wv (wG AX)
def EBV:Arb:=fy u1 wF CS ARn [EAj,Qk,RBB,RAi] Tryz.func150 DBV ZAy YAy wG
inductive ABD where
 |c0 (a:Int) (b:(List Int))
def FBV:ABD->Asu
 |.c0 a b=>(tdo Tryz.f88 224,[vi 0 a,vo 3 240],[(240,.sl 5 b)])
def SBB (k:AsB ABD AA):QZ:=fun a=>k (.c0 a [])
def GAj (k:AsB ABD AA):AsB ABD AA
 |.c0 a b=>mk (cond (a > 127) (cond (Qo b) (k (.c0 (FN (a.tdiv 128)) (b++[w8 (FN (128+(a.tmod 128)))]))) none) (FH (Qo b) (Ll (b++[w8 a]))))
def ou:ArS ABD AA
 |0,_=>none
 |m+1,s=>GAj (ou m) s
def Wy:QZ:=SBB (ou AX)
def eu:Arb:=fy u1 Wy E5 CS [] Tryz.func88 FBV GAj SBB ou
def ALo (d:As1) (e:QZ):JAe:=fun b=>mk ((d b 0 1000000000).bind fun a=>cond (!a) (LZ (IK,false)) ((e b).bind fun c=>LZ (c,true)))
def wH:JAe:=ALo Je Wy
def GBV:Arb:=BF u1 wH E5 Hw [Qk,eu] Tryz.func147 ALo
def BAz:QZ:=fun a=>mk (Ll [w8 a])
def Ass:QZ:=BAz
def VX:Arb:=BF u1 Ass E5 CS [] Tryz.func89 BAz
inductive CAY where
 |c0 (a b d:Int) (e:(List Int))
def HBV:CAY->Asu
 |.c0 a b d e=>(tdo Tryz.f190 232,[(1,[.one (.int .u8 a)]),vo 5 368,vi 10 b,vi 11 d],[(368,.sl 5 e)])
def CAz (k:AsB CAY AA):Asp:=fun a b=>mk (cond (QB a) (k (.c0 b (NZ (LJ a)) 0 (LJ a))) none)
def HAj (k:AsB CAY AA):AsB CAY AA
 |.c0 d c a b=>mk (cond (ArF a c) (cond (AvD a b) (cond (AvD a b) (k (.c0 d c (NM a) (b.set (IZ a) (w8 (Arj O5 (Arc b a) d))))) none) none) (Ll b))
def kW:ArS CAY AA
 |0,_=>none
 |m+1,s=>HAj (kW m) s
def kV:Asp:=CAz (kW AX)
def IBV:Arb:=fy u2 kV AR8 CS [] Tryz.func190 HBV HAj CAz kW
def DAz (b:As8) (d:QZ) (e:Asp):AvH:=fun a f=>mk (cond ((Aq5 a) > 64) ((b a).bind fun c=>VAq d c e f b) (VAq d a e f b))
def kY:AvH:=DAz KZ YD kV
def TBB:Arb:=BF u2 kY KH CS [VW,QAi,IBV] Tryz.func148 DAz
inductive EAY where
 |c0 (a:AA) (b:Int) (d e:AA) (f:Int)
def JBV:EAY->Asu
 |.c0 a b d e f=>(tdo Tryz.f90 2000,[vs 0 a,vi 2 b,vs 8 d,vs 10 e,vi 11 f],[])
def EAz (d:JAe) (f:As1) (h:QZ) (i:AvH) (k:AsB EAY (AA×Bool)):Yi:=fun g e c=>mk ((d e).bind fun a=>cond (!a.2) (LZ (IK,false)) ((f c 0 8000).bind fun b=>cond (!b) (LZ (IK,false)) (k (.c0 g c a.1 IK 0))))
def IAj (a:JAe) (b:As1) (c:QZ) (d:AvH) (k:AsB EAY (AA×Bool)):AsB EAY (AA×Bool)
 |.c0 l f g e j=>mk (cond (ArF (Aq5 e) f) (cond (AsU eF g) ((c j).bind fun h=>cond (Hr eF g h) ((d l ((eF++g)++h)).bind fun i=>cond (AsU e i) (k (.c0 l f g (e++i) (NM j))) none) none) none) (Nc (Jf f (Aq5 e)) (LZ (QD e f,true))))
def kZ:ArS EAY (AA×Bool)
 |0,_=>none
 |m+1,s=>IAj wH Je Ass kY (kZ m) s
def wI:Yi:=EAz wH Je Ass kY (kZ AX)
def UBB:Arb:=fy u3 wI rW Hw [GBV,Qk,VX,TBB] Tryz.func90 JBV IAj EAz kZ
def FAz (d:QZ) (f:AvH):Yj:=fun g e c=>mk ((d e).bind fun a=>FH (AsU O8 a) (FH (Hr O8 a c) ((f g ((O8++a)++c)).bind fun b=>FH ((GN La (16:Int)) && (decide (16<=(Aq5 b)))) (some (QD b (16:Int))))))
def wJ:Yj:=FAz Wy kY
def VBB:Arb:=BF u3 wJ UH CS [eu,TBB] Tryz.func92 FAz
inductive HAY where
 |c0 (a:AA) (b d:Int) (e:(List Int))
def KBV:HAY->Asu
 |.c0 a b d e=>(tdo Tryz.f91 232,[vs 1 a,vo 5 368,vi 10 b,vi 11 d],[(368,.sl 5 e)])
def GAz (k:AsB HAY AA):AvH:=fun a b=>mk (cond (QB a) (k (.c0 b (NZ (LJ a)) 0 (LJ a))) none)
def JAj (k:AsB HAY AA):AsB HAY AA
 |.c0 c d a b=>mk (cond (ArF a d) (cond (AvD a b) (cond (AtI a (Aq5 c)) (cond (AvD a b) (k (.c0 c d (NM a) (b.set (IZ a) (w8 (Arj O5 (Arc b a) (bt c a)))))) none) none) none) (Ll b))
def ku:ArS HAY AA
 |0,_=>none
 |m+1,s=>JAj (ku m) s
def wK:AvH:=GAz (ku AX)
def WBB:Arb:=fy u2 wK KH CS [] Tryz.func91 KBV JAj GAz ku
def HAz (g:Yi) (h:Yj) (i:AvH):Wl:=fun c d a=>mk (cond (JK (FN ((Aq5 a) - 16))) (LZ (IK,false)) ((g c d (FN ((Aq5 a) - 16))).bind fun b=>cond (!b.2) (LZ (IK,false)) (Nc (zN a) ((h c d (Y5 a)).bind fun e=>Nc (zN a) (cond (!(EZ e (a.extract (Ub ((Aq5 a) - 16)) a.size))) (LZ (IK,false)) (Nc (zN a) ((i (Y5 a) b.1).bind fun f=>LZ (f,true))))))))
def lC:Wl:=HAz wI wJ wK
def XBB:Arb:=BF u3 lC UH Hw [UBB,VBB,WBB] Tryz.func129 HAz
def KAj (c:Q5):FAq:=fun a=>(c a.fText a.D8).bind fun b=>cond (!b.2.2) (some (0,⟨a.fText,a.D8,true⟩)) (some (b.1,⟨a.fText,b.2.1,a.Ih⟩))
def oh:FAq:=KAj Qq
def LBV:Arb:=BF u1 oh ARx AbU [EAj] Tryz.func132 KAj [0]
def xJ (c:Q5):KAe:=fun b d=>mk ((c b d).bind fun a=>cond (!a.2.2) (some (IK,0,false)) (cond (a.1 > 20000) (some (IK,0,false)) (cond (a.1 > (ArU (Aq5 b) a.2.1)) (some (IK,0,false)) (cond (AuB a.2.1 (D7 a.2.1 a.1) (Aq5 b)) (some (Jl b a.2.1 (a.2.1+a.1),D7 a.2.1 a.1,true)) none))))
def AvA:KAe:=xJ Qq
def YBB:Arb:=BF u2 AvA QM ARy [EAj] Tryz.func130 xJ
def LAj (c:KAe):GAq:=fun a=>mk ((c a.fText a.D8).bind fun b=>cond (!b.2.2) (some (IK,⟨a.fText,a.D8,true⟩)) (some (b.1,⟨a.fText,b.2.1,a.Ih⟩)))
def oq:GAq:=LAj AvA
def MBV:Arb:=BF u1 oq ARx AbV [YBB] Tryz.func133 LAj [0]
def IAz (c:As1):OL:=fun a=>mk ((c a.fId 1 1000).bind fun b=>JZ (!b) (some false) ((c a.fNext 0 16).bind fun d=>JZ (!d) (some false) (JZ (a.Aa != 2) (JZ (a.fNext != 0) (some false) (JZ (ArW a) (some false) (JZ (a.Aa != 1) (JZ (As4 a) (some false) (y7 a a.Aa (AsR (AtN a)) (a.Aa == 3) (qN a) (some false))) (y7 a a.Aa (AsR (AtN a)) (a.Aa == 3) (qN a) (some false))))) (JZ (a.Aa != 1) (JZ (As4 a) (some false) (y7 a a.Aa (AsR (AtN a)) (a.Aa == 3) (qN a) (some false))) (y7 a a.Aa (AsR (AtN a)) (a.Aa == 3) (qN a) (some false))))))
def Aui:OL:=IAz Je
def KAY:Arb:=BF u1 Aui RP GK [Qk] Tryz.func99 IAz
inductive NAY where
 |c0 (a b d:Int) (e:(List Bool))
def NBV:NAY->Asu
 |.c0 a b d e=>(tdo Tryz.f136 232,[vi 3 a,vo 14 944,vi 15 b,vi 16 d],[(944,.sl 4 e)])
def JAz (k:AsB NAY Int):HAq:=fun a=>mk (k (.c0 0 ((4:Nat):Int) 0 [Tf a,Arh a,ArW a,As4 a]))
def ZBB (k:AsB NAY Int):AsB NAY Int
 |.c0 d c a b=>mk (cond (ArF a c) (cond (AtW a b.length) (cond (b.getD (IZ a) false) (cond (AuS a) (k (.c0 (FN (Y4 Auc d (FN (1*(Q8 a))))) c (NM a) b)) none) (k (.c0 d c (NM a) b))) none) (some d))
def MAj:ArS NAY Int
 |0,_=>none
 |m+1,s=>ZBB (MAj m) s
def NAj:HAq:=JAz (MAj AX)
def OBV:Arb:=fy u1 NAj RP E5 [] Tryz.func136 NBV ZBB JAz MAj
def KAz (c:QZ):As8:=fun b=>mk ((c (Aq5 b)).bind fun a=>FH (AsU a b) (some (a++b)))
def OAj:As8:=KAz Wy
def PBV:Arb:=BF u1 OAj CS CS [eu] Tryz.func137 KAz
def LAz (l:OL) (h i:QZ) (m:HAq) (n:As8):AvL:=fun a=>mk ((l a).bind fun g=>cond (!g) (LZ (IK,false)) ((h a.fId).bind fun b=>(i a.Aa).bind fun c=>Nc (AsU b c) ((m a).bind fun j=>(i j).bind fun d=>Nc (Hr b c d) ((n (AtN a)).bind fun e=>Nc (Hr (b++c) d e) ((h a.fNext).bind fun f=>Nc (Hr ((b++c)++d) e f) (LZ ((((b++c)++d)++e)++f,true)))))))
def oz:AvL:=LAz Aui Wy Ass NAj OAj
def MAz:Arb:=BF u1 oz RP Hw [KAY,eu,VX,OBV,PBV] Tryz.func82 LAz
def PAj (b:FAq) (i:GAq) (j:AvL):Yn:=fun h=>mk ((b ⟨h,0,false⟩).bind fun a=>(b a.2).bind fun c=>(b c.2).bind fun d=>(i d.2).bind fun e=>(b e.2).bind fun f=>(j (RAq a c d e f)).bind fun g=>cond f.2.Ih (some (⟨0,0,false,false,false,false,IK,0⟩,false)) (cond (!g.2) (some (⟨0,0,false,false,false,false,IK,0⟩,false)) (cond (!(EZ g.1 h)) (some (⟨0,0,false,false,false,false,IK,0⟩,false)) (some (RAq a c d e f,true)))))
def ArX:Yn:=PAj oh oq oz
def BBC:Arb:=BF u1 ArX CS Xa [LBV,MBV,MAz] Tryz.func78 PAj
def NAz (j:QZ) (m:As1) (o:AvL) (b:QZ):Arm:=fun a=>mk (cond (a.Aa == 1) (cond (!(AsR a.fText)) (LZ (IK,false)) (cond (!((Auz a.Aa) && (((AuT a.fText) == (AuT a.fText)) && ((Aup a.DY) && (((Aup (Fa a).fId) && ((Aup (Fa a).Aa) && (((Tf (Fa a)) == false) && (((Arh (Fa a)) == false) && (((ArW (Fa a)) == false) && (((As4 (Fa a)) == false) && ((eP a) && ((Aup (Fa a).fNext) && true)))))))) && true))))) (LZ (IK,false)) ((b a.Aa).bind fun d=>Nc (AsU d a.fText) (LZ (d++a.fText,true))))) (cond (a.Aa == 2) ((j a.DY).bind fun e=>(m a.DY 0 3).bind fun l=>cond (!l) (LZ (IK,false)) (cond (!((Auz a.Aa) && ((EZ a.fText IK) && ((Auz a.DY) && (((Aup (Fa a).fId) && ((Aup (Fa a).Aa) && (((Tf (Fa a)) == false) && (((Arh (Fa a)) == false) && (((ArW (Fa a)) == false) && (((As4 (Fa a)) == false) && ((eP a) && ((Aup (Fa a).fNext) && true)))))))) && true))))) (LZ (IK,false)) ((b a.Aa).bind fun f=>Nc (AsU f e) (LZ (f++e,true))))) (cond (a.Aa == 3) ((o (Fa a)).bind fun c=>cond (!c.2) (LZ (IK,false)) (cond (!((Auz a.Aa) && ((EZ a.fText IK) && ((Aup a.DY) && (((Auz (Fa a).fId) && ((Auz (Fa a).Aa) && (((Tf (Fa a)) == (Tf (Fa a))) && (((Arh (Fa a)) == (Arh (Fa a))) && (((ArW (Fa a)) == (ArW (Fa a))) && (((As4 (Fa a)) == (As4 (Fa a))) && (((AuT (AtN (Fa a))) == (AuT (AtN (Fa a)))) && ((Auz (Fa a).fNext) && true)))))))) && true))))) (LZ (IK,false)) ((b a.Aa).bind fun g=>Nc (AsU g c.1) (LZ (g++c.1,true))))) (cond (a.Aa == 4) ((j a.DY).bind fun h=>(m a.DY 1 1000).bind fun n=>cond (!n) (LZ (IK,false)) (cond (!((Auz a.Aa) && ((EZ a.fText IK) && ((Auz a.DY) && (((Aup (Fa a).fId) && ((Aup (Fa a).Aa) && (((Tf (Fa a)) == false) && (((Arh (Fa a)) == false) && (((ArW (Fa a)) == false) && (((As4 (Fa a)) == false) && ((eP a) && ((Aup (Fa a).fNext) && true)))))))) && true))))) (LZ (IK,false)) ((b a.Aa).bind fun i=>Nc (AsU i h) (LZ (i++h,true))))) (LZ (IK,false))))))
def o7:Arm:=NAz Wy Je oz Ass
def OAz:Arb:=BF u1 o7 AR5 Hw [eu,Qk,MAz,VX] Tryz.func32 NAz
def dI (h:Yn) (i:Q5) (c:Arm):Yy:=fun a=>mk (cond (EZ a IK) (some (⟨0,IK,0,⟨0,0,false,false,false,false,IK,0⟩⟩,false)) (cond (XJ La (Aq5 a)) (cond ((FN (bt a 0)) == 1) (cond (zI a) ((c ⟨FN (bt a 0),O7 a ArE,0,⟨0,0,false,false,false,false,IK,0⟩⟩).bind fun b=>cond (!b.2) (some (⟨0,IK,0,⟨0,0,false,false,false,false,IK,0⟩⟩,false)) (cond (!(EZ b.1 a)) (some (⟨0,IK,0,⟨0,0,false,false,false,false,IK,0⟩⟩,false)) (some (⟨FN (bt a 0),O7 a ArE,0,⟨0,0,false,false,false,false,IK,0⟩⟩,true)))) none) (cond ((FN (bt a 0)) == 3) (cond (zI a) ((h (O7 a ArE)).bind fun d=>(c ⟨FN (bt a 0),IK,0,d.1⟩).bind fun e=>cond (!e.2) (some (⟨0,IK,0,⟨0,0,false,false,false,false,IK,0⟩⟩,false)) (cond (!(EZ e.1 a)) (some (⟨0,IK,0,⟨0,0,false,false,false,false,IK,0⟩⟩,false)) (some (⟨FN (bt a 0),IK,0,d.1⟩,true)))) none) ((i a 1).bind fun f=>(c ⟨FN (bt a 0),IK,f.1,⟨0,0,false,false,false,false,IK,0⟩⟩).bind fun g=>cond (!g.2) (some (⟨0,IK,0,⟨0,0,false,false,false,false,IK,0⟩⟩,false)) (cond (!(EZ g.1 a)) (some (⟨0,IK,0,⟨0,0,false,false,false,false,IK,0⟩⟩,false)) (some (⟨FN (bt a 0),IK,f.1,⟨0,0,false,false,false,false,IK,0⟩⟩,true)))))) none))
def TY:Yy:=dI ArX Qq o7
def QBV:Arb:=BF u1 TY CS ARo [BBC,EAj,OAz] Tryz.func151 dI
def PAz (f:As1) (g:QZ) (h:Yk) (i:QZ):Aur:=fun a=>mk ((f (Aq5 a) 1 9000).bind fun d=>cond (!d) (LZ (IK,false)) ((g (Aq5 a)).bind fun b=>(h a).bind fun e=>(i e).bind fun c=>Nc (AsU b c) (Nc (Hr b c a) (LZ ((b++c)++a,true)))))
def lD:Aur:=PAz Je Wy kU Wv
def CBC:Arb:=BF u1 lD CS Hw [Qk,eu,RBB,RAi] Tryz.func35 PAz
inductive OAY where
 |c0 (a:AA) (b d e:Int) (f:(List Aq)) (g:(List AA))
def RBV:OAY->Asu
 |.c0 a b d e f g=>(tdo Tryz.f104 1000,[vs 0 a,vo 8 560,vi 9 b,vo 23 1520,vi 24 d,vi 25 e],[(560,.sl 48 f),(1520,.sl 9 g)])
def QAz (b:Yx) (e:Wl) (f:Yy) (g:Aur) (k:AsB OAY (List Aq×Int)):Yz:=fun d c=>mk ((b c).bind fun a=>k (.c0 d 0 (AuK a.1) 0 [] a.1))
def QAj (a:Yx) (b:Wl) (c:Yy) (d:Aur) (k:AsB OAY (List Aq×Int)):AsB OAY (List Aq×Int)
 |.c0 m h l e f g=>mk (cond (ArF e l) (cond (Oq e g) ((b m (NM e) (ArA g e IK)).bind fun i=>(c i.1).bind fun j=>cond (!i.2) (some (f,h)) (cond (!j.2) (some (f,h)) (cond (Ic ((f.length+1)*80)) ((d (ArA g e IK)).bind fun n=>k (.c0 m (D7 h (Aq5 n.1)) l (NM e) (f++[j.1]) g)) none))) none) (some (f,h)))
def lF:ArS OAY (List Aq×Int)
 |0,_=>none
 |m+1,s=>QAj wF lC TY lD (lF m) s
def RAj:Yz:=QAz wF lC TY lD (lF AX)
def SBV:Arb:=fy u2 RAj KH ARp [EBV,XBB,QBV,CBC] Tryz.func104 RBV QAj QAz lF
def RAz:AuQ:=fun a=>mk (cond (Ic ((Gt a)*48)) (some a) none)
def dK:AuQ:=RAz
def SAz:Arb:=BF u1 dK ACY ACX [] Tryz.func38 RAz
inductive QAY where
 |c0 (a:(List Ah)) (b d:Int) (e:Bf)
def TBV:QAY->Asu
 |.c0 b d e a=>(tdo Tryz.f37 104,[vp 1 64,vr 6 46 b,vi 7 d,vi 8 e],[(64,.var [.str a.Bv,li a.DR,.BH 46 a.Ag,li a.BR,.str a.Dp,li a.fCount])])
def TAz (b:OL) (c:As1) (k:AsB QAY Bool):Tj:=fun a=>mk (k (.c0 (At3 a) (KU a) 0 a))
def SAj (a:OL) (b:As1) (k:AsB QAY Bool):AsB QAY Bool
 |.c0 e f d c=>mk (cond (ArF d f) (cond (AtW d e.length) ((a (Ja e d ⟨0,0,false,false,false,false,IK,0⟩)).bind fun g=>cond (!g) (some false) (cond ((Ja e d ⟨0,0,false,false,false,false,IK,0⟩).fId > c.BR) (some false) (cond (Rn d) (cond (AtI (Nq d) (KU c)) (cond (At5 (Ja (At3 c) (Nq d) ⟨0,0,false,false,false,false,IK,0⟩).fId (Ja e d ⟨0,0,false,false,false,false,IK,0⟩).fId) (some false) (k (.c0 e f (NM d) c))) none) (k (.c0 e f (NM d) c))))) none) (JZ (AsR c.Bv) (JZ (AsR (Jb c)) (Au1 (b (Aud c) 0 3) (JZ ((KU c)<=8) (Au1 (b c.BR 0 1000) (Oo (b c.fCount 0 10000)) (some false)) (some false)) (some false)) (some false)) (some false)))
def dJ:ArS QAY Bool
 |0,_=>none
 |m+1,s=>SAj Aui Je (dJ m) s
def pF:Tj:=TAz Aui Je (dJ AX)
def DBC:Arb:=fy u1 pF ACY GK [KAY,Qk] Tryz.func37 TBV SAj TAz dJ
inductive RAY where
 |c0 (a:Int) (b:(List Ah)) (d e:Int)
def UBV:RAY->Asu
 |.c0 a b d e=>(tdo Tryz.f40 104,[vi 1 a,vr 8 46 b,vi 9 d,vi 10 e],[])
def EBC (k:AsB RAY Int):y5:=fun a b=>mk (k (.c0 b (At3 a) (KU a) 0))
def TAj (k:AsB RAY Int):AsB RAY Int
 |.c0 d b c a=>mk (cond (ArF a c) (cond (AtW a b.length) (cond ((Ja b a ⟨0,0,false,false,false,false,IK,0⟩).fId == d) (some a) (k (.c0 d b c (NM a)))) none) Au8)
def dL:ArS RAY Int
 |0,_=>none
 |m+1,s=>TAj (dL m) s
def yV:y5:=EBC (dL AX)
def UAz:Arb:=fy u2 yV AIP E5 [] Tryz.func40 UBV TAj EBC dL
def VAz:dQ:=fun b a=>mk (JZ (a.Aa == b.Aa) (JZ (EZ (AtN a) (AtN b)) (JZ ((ArW a) == (ArW b)) (JZ ((As4 a) == (As4 b)) (JZ (At5 a.fNext b.fNext) (JZ (Tf a) (JZ (Arh a) (some true) (some (!(Arh b)))) (JZ (!(Tf b)) (JZ (Arh a) (some true) (some (!(Arh b)))) (some false))) (some false)) (some false)) (some false)) (some false)) (some false))
def UAj:dQ:=VAz
def VBV:Arb:=BF u2 UAj AR6 GK [] Tryz.func100 VAz
def WAz (e:y5) (f:dQ):IAq:=fun a c=>mk ((e a c.fId).bind fun b=>cond (Aue b) (cond (Nb b a) ((f (Ja (At3 a) b ⟨0,0,false,false,false,false,IK,0⟩) c).bind fun d=>cond (!d) (some (false,a)) (cond (Nb b a) (some (true,⟨a.Bv,Aud a,(At3 a).set (IZ b) c,a.BR,Jb a,a.fCount⟩)) none)) none) (cond (c.fId != (NM a.BR)) (some (false,a)) (cond ((KU a)>=8) (some (false,a)) (cond (Ic (((Gt a)+1)*48)) (some (true,⟨a.Bv,Aud a,(At3 a)++[c],c.fId,Jb a,a.fCount⟩)) none))))
def VAj:IAq:=WAz yV UAj
def WBV:Arb:=BF u2 VAj AbW AbX [UAz,VBV] Tryz.func39 WAz [0]
def XAz (o:Arm) (p:Tj) (q:AuQ) (r:IAq) (s:y5) (g:As8):Asm:=fun a d=>mk ((o d).bind fun c=>(p a).bind fun h=>cond (!h) (some (Auj,false)) (cond (!c.2) (some (Auj,false)) (cond (a.fCount>=10000) (some (Auj,false)) ((q a).bind fun b=>cond (d.Aa == 1) (cond (Nr a c) ((g ((Jb a)++c.1)).bind fun i=>some (⟨d.fText,0,At3 b,b.BR,i,OO b⟩,true)) none) (cond (d.Aa == 2) (cond (Nr a c) ((g ((Jb a)++c.1)).bind fun j=>some (⟨b.Bv,d.DY,At3 b,b.BR,j,OO b⟩,true)) none) (cond (d.Aa == 3) ((r b (Fa d)).bind fun f=>cond (!f.1) (some (Auj,false)) (cond (Nr a c) ((g ((Jb a)++c.1)).bind fun l=>some (⟨f.2.Bv,Aud f.2,At3 f.2,f.2.BR,l,OO f.2⟩,true)) none)) (cond (d.Aa == 4) ((s a d.DY).bind fun e=>cond (JK e) (some (Auj,false)) (cond (Jf e (KU a)) (cond (Ic ((((At3 a).take (IZ e)).drop 0).length*48)) (cond (Jf (NM e) (KU a)) (cond (Ic (((((At3 a).take (IZ e)).drop 0).length+(((At3 a).take (Gt a)).drop (AuX e)).length)*48)) (cond (Nr a c) ((g ((Jb a)++c.1)).bind fun m=>some (⟨b.Bv,Aud b,(((At3 a).take (IZ e)).drop 0)++(((At3 a).take (Gt a)).drop (AuX e)),b.BR,m,OO b⟩,true)) none) none) none) none) none)) (cond (Nr a c) ((g ((Jb a)++c.1)).bind fun n=>some (⟨b.Bv,Aud b,At3 b,b.BR,n,OO b⟩,true)) none))))))))
def X8:Asm:=XAz o7 pF dK VAj yV KZ
def FBC:Arb:=BF u2 X8 AR7 ACZ [OAz,DBC,SAz,WBV,UAz,VW] Tryz.func10 XAz
inductive UAY where
 |c0 (a:(List Aq)) (b d:Int) (e:AA) (f g:Int) (h:AA) (i:Int) (j:AA) (l n:Int) (o:AA) (p:Int) (q t:(List Ah))
def XBV:UAY->Asu
 |.c0 a b d e f g h i j l n o p q t=>(tdo Tryz.f105 232,[vp 4 256,vp 6 384,vr 13 48 a,vi 14 b,vi 15 d],[(256,.var [.str e,li f,.own 1016386,li g,.str h,li i]),(384,.var [.str j,li l,.own 1024578,li n,.str o,li p]),(1016386,.sl 46 q),(1024578,.sl 46 t)])
def YAz (c:AuQ) (e:Asm) (k:AsB UAY (Bf×Bool)):qM:=fun d b=>mk ((c d).bind fun a=>k (.c0 b (b.length:Int) 0 IK 0 0 IK 0 a.Bv (Aud a) a.BR (Jb a) a.fCount [] (At3 a)))
def WAj (a:AuQ) (b:Asm) (k:AsB UAY (Bf×Bool)):AsB UAY (Bf×Bool)
 |.c0 e f d n o p q r g h j l m s i=>mk (cond (ArF d f) (cond (AtW d e.length) ((b ⟨g,h,i,j,l,m⟩ (VJ e d IK ⟨0,0,false,false,false,false,IK,0⟩)).bind fun c=>cond (!c.2) (some (Auj,false)) (k (.c0 e f (NM d) n o p q r c.1.Bv (Aud c.1) c.1.BR (Jb c.1) c.1.fCount s (At3 c.1)))) none) (some (⟨g,h,i,j,l,m⟩,true)))
def lG:ArS UAY (Bf×Bool)
 |0,_=>none
 |m+1,s=>WAj dK X8 (lG m) s
def XAj:qM:=YAz dK X8 (lG AX)
def YBV:Arb:=fy u2 XAj ARs ACZ [SAz,FBC] Tryz.func105 XBV WAj YAz lG
def ZAz (h:Yw) (i:Yz) (l:P8) (m:qM) (n:OJ) (o:Td):Aul:=fun j d=>mk ((h d AuW).bind fun a=>(i j a.1).bind fun b=>l.bind fun e=>(m e b.1).bind fun c=>(n d).bind fun f=>cond (!f) (some (Auj,[],false)) (cond (!c.2) (some (Auj,[],false)) ((o d O6).bind fun g=>cond (Aue g) (cond (b.2 == (Aq5 a.1)) (some (c.1,[⟨4,O6,IK,IK⟩],true)) (cond (Jf b.2 (Aq5 a.1)) (some (c.1,WAq a.1 b.2,true)) none)) (cond (b.2 == (Aq5 a.1)) (some (c.1,[],true)) (cond (Jf b.2 (Aq5 a.1)) (some (c.1,[⟨1,O6,QD a.1 b.2,IK⟩,⟨2,O6,IK,IK⟩,⟨3,O6,IK,AuW⟩],true)) none)))))
def lH:Aul:=ZAz CAj RAj aW XAj aV aX
def GBC:Arb:=BF u2 lH ARt ARu [ZBU,SBV,RAy,YBV,CAy,BAj] Tryz.func46 ZAz
def AL2 (c:y5):At1:=fun b d=>mk ((c b d).bind fun a=>cond (JK a) (some (⟨0,0,false,false,false,false,IK,0⟩,false)) (cond (Nb a b) (some (Ja (At3 b) a ⟨0,0,false,false,false,false,IK,0⟩,true)) none))
def TL:At1:=AL2 yV
def YAj:Arb:=BF u2 TL AIP Xa [UAz] Tryz.func29 AL2
inductive VAY where
 |c0 (a:(List Cc)) (b d:Int) (e:Aj)
def ZBV:VAY->Asu
 |.c0 b d e a=>(tdo Tryz.f47 104,[vp 1 64,vr 8 73 b,vi 9 d,vi 10 e],[(64,.var [.str a.BN,.bool a.Bj,.BH 140 a.Bd.Ai,.str a.AV.Bv,li a.AV.DR,.BH 46 a.AV.Ag,li a.AV.BR,.str a.AV.Dp,li a.AV.fCount,.BH 67 a.BI,.BH 73 a.BJ,li a.CU])])
def BA0 (b:At1) (c:As1) (k:AsB VAY Bool):Na:=fun a=>mk (k (.c0 (Md a) (Tn a:Int) 0 a))
def ZAj (a:At1) (b:As1) (k:AsB VAY Bool):AsB VAY Bool
 |.c0 d g c e=>mk (cond (ArF c g) (cond (AtW c d.length) ((a (As9 e) (Ary d c).fId).bind fun f=>cond (!f.2) (some false) (cond (f.1.Aa != 2) (some false) ((b (Ary d c).fNext 0 f.1.fNext).bind fun h=>cond (!h) (some false) (cond (Rn c) (cond (AtI (Nq c) (Tn e:Int)) (cond (At5 ((Md e).getD (Ub (c - 1)) PAe).fId (Ary d c).fId) (some false) (k (.c0 d g (NM c) e))) none) (k (.c0 d g (NM c) e)))))) none) (some true))
def lI:ArS VAY Bool
 |0,_=>none
 |m+1,s=>ZAj TL Je (lI m) s
def wL:Na:=BA0 TL Je (lI AX)
def AmJ:Arb:=fy u1 wL QN GK [YAj,Qk] Tryz.func47 ZBV ZAj BA0 lI
inductive YAY where
 |c0 (a:(List EC)) (b d:Int) (e:Aj)
def BBW:YAY->Asu
 |.c0 b d e a=>(tdo Tryz.f12 488,[vp 1 64,vr 44 67 b,vi 45 d,vi 46 e],[(64,.var [.str a.BN,.bool a.Bj,.BH 140 a.Bd.Ai,.str a.AV.Bv,li a.AV.DR,.BH 46 a.AV.Ag,li a.AV.BR,.str a.AV.Dp,li a.AV.fCount,.BH 67 a.BI,.BH 73 a.BJ,li a.CU])])
def CA0 (e:OJ) (f:As1) (g:P8) (h:Rx) (i:Aul) (j:Tj) (l:Na) (k:AsB YAY Bool):Na:=fun a=>mk (cond ((Aq5 a.BN) != 32) (some false) ((e a.Bd).bind fun b=>cond (!b) (some false) ((f (Asn a) 0 1000).bind fun c=>cond (!c) (some false) (cond (!a.Bj) (JZ (QA a) (JZ (Aup (Tn a:Int)) (g.bind fun d=>Oo (h (As9 a) d)) (some false)) (some false)) (k (.c0 (Eb a) (He a:Int) 0 a))))))
def wM (a:OJ) (b:As1) (c:P8) (d:Rx) (e:Aul) (f:Tj) (g:Na) (k:AsB YAY Bool):AsB YAY Bool
 |.c0 j m h i=>mk (cond (ArF h m) (cond (AtW h j.length) (cond (h>=3) (some false) ((b (KT j h ⟨0,false⟩).fId 1 (Asn i)).bind fun n=>cond (!n) (some false) (cond (Rn h) (cond (AtI (Nq h) (He i:Int)) (cond (At5 ((Eb i).getD (Ub (h - 1)) (⟨0,false⟩:EC)).fId (KT j h ⟨0,false⟩).fId) (some false) (k (.c0 j m (NM h) i))) none) (k (.c0 j m (NM h) i))))) none) ((e i.BN i.Bd).bind fun l=>Au1 (f (As9 i)) (JZ l.2.2 (JZ (Aup (l.2.1.length:Int)) (Au1 (d l.1 (As9 i)) (Oo (g i)) (some false)) (some false)) (some false)) (some false)))
def lJ:ArS YAY Bool
 |0,_=>none
 |m+1,s=>wM aV Je aW wC lH pF wL (lJ m) s
def Ase:Na:=CA0 aV Je aW wC lH pF wL (lJ AX)
def DA0:Arb:=fy u1 Ase QN GK [CAy,Qk,RAy,XBU,GBC,DBC,AmJ] Tryz.func12 BBW wM CA0 lJ
def EA0 (b:As1):Y0:=fun a=>mk (Au1 (b a.Au 1 13) (Au1 (b (Atp a) 0 1000) (Au1 (b a.BK 0 1000) (Au1 (b a.Aa 0 3) (some (decide ((Aq5 a.fText)<=1000))) (some false)) (some false)) (some false)) (some false))
def AEk:Y0:=EA0 Je
def CBW:Arb:=BF u1 AEk AIM GK [Qk] Tryz.func21 EA0
def FA0:dW:=fun a=>mk (cond (AtW a (10:Nat)) (some ([],a,ArA [Arl IK,Arl dw,Arl ⟨#[115,101,115,115,105,111,110]⟩,Arl ⟨#[108,111,99,107,101,100]⟩,Arl ⟨#[119,111,114,100]⟩,qQ,Arl zJ,Arl ⟨#[110,111,110,101]⟩,Arl Y3,Arl ⟨#[100,111,119,110]⟩] a IK)) none)
def YH:dW:=FA0
def ABQ:Arb:=BF u1 YH E5 Nw [] Tryz.func22 FA0
def HBC:QZ:=fun a=>mk (cond (a<10) (FH (AuB a (NM a) (Aq5 SAq)) (some (SAq.extract (IZ a) (AuX a)))) (FH (AuB (FN (a*2)) (FN ((FN (a*2))+2)) (Aq5 OAq)) (some (OAq.extract (Ub (a*2)) (Ub ((FN (a*2))+2))))))
def internal_strconv_small:QZ:=HBC
def DBW:Arb:=BF u1 internal_strconv_small E5 CS [] Tryz.func214 HBC
def internal_strconv_numDigits:Mc:=fun _=>none
def EBW:Arb:=fs u1 internal_strconv_numDigits sF E5 215
def internal_strconv_formatBase10:dX:=fun _ _=>none
def FBW:Arb:=fs u2 internal_strconv_formatBase10 AbY AbZ 216
def IBC:WA8:=fun _ _ _ _ _=>none
def GBW:Arb:=fs u5 IBC Aba Abb 217
def JBC (e:QZ) (b:Mc) (l:dX) (j:WA8):Yh:=fun a c=>mk (cond (c == 10) (cond (AuS a) (cond (a<100) (Lh (e a)) (cond (JK a) ((b (Atq (0 - (Atq a)))).bind fun f=>none) ((b (Atq a)).bind fun g=>none))) (cond (JK a) ((b (Atq (0 - (Atq a)))).bind fun h=>none) ((b (Atq a)).bind fun i=>none))) ((j [] (Atq a) c (JK a) false).bind fun d=>some d.2))
def KBC:Yh:=JBC internal_strconv_small internal_strconv_numDigits internal_strconv_formatBase10 IBC
def HBW:Arb:=BF u2 KBC rU CS [DBW,EBW,FBW,GBW] Tryz.func172 JBC
def LBC (a:Yh):QZ:=fun b=>mk (Lh (a b 10))
def internal_strconv_Itoa:QZ:=LBC KBC
def IBW:Arb:=BF u1 internal_strconv_Itoa E5 CS [HBW] Tryz.func126 LBC
def MBC (a:QZ):QZ:=fun b=>mk (Lh (a b))
def strconv_Itoa:QZ:=MBC internal_strconv_Itoa
def JBW:Arb:=BF u1 strconv_Itoa E5 CS [IBW] Tryz.func69 MBC
def NBC (a:QZ):QZ:=fun b=>mk (Lh (a b))
def Xj:QZ:=NBC strconv_Itoa
def GA0:Arb:=BF u1 Xj E5 CS [JBW] Tryz.func23 NBC
inductive BAZ where
 |c0 (a:Int) (b:(List EC)) (d e:Int)
def KBW:BAZ->Asu
 |.c0 a b d e=>(tdo Tryz.f24 104,[vi 1 a,vr 8 67 b,vi 9 d,vi 10 e],[])
def HA0 (k:AsB BAZ Int):Wh:=fun a b=>mk (k (.c0 b (Eb a) (He a:Int) 0))
def BAk (k:AsB BAZ Int):AsB BAZ Int
 |.c0 d b c a=>mk (cond (ArF a c) (cond (AtW a b.length) (cond ((KT b a ⟨0,false⟩).fId == d) (some a) (k (.c0 d b c (NM a)))) none) Au8)
def lM:ArS BAZ Int
 |0,_=>none
 |m+1,s=>BAk (lM m) s
def lK:Wh:=HA0 (lM AX)
def OBC:Arb:=fy u2 lK rZ E5 [] Tryz.func24 KBW BAk HA0 lM
def IA0 (c:dW) (e:As8):J7:=fun a f=>mk (cond ((OI a)>=3) (AsJ (c 3)) ((e f.fText).bind fun d=>cond (!(EZ d (As9 a).Bv)) ((c 4).bind fun b=>some ([⟨2,IK,NM (OI a),⟨0,0,false,false,false,false,IK,0⟩⟩],b.2.1,b.2.2)) (cond (Aup (OI a)) (some ([],0,IK)) (some ([⟨2,IK,0,⟨0,0,false,false,false,false,IK,0⟩⟩],0,IK)))))
def CAk:J7:=IA0 YH KZ
def LBW:Arb:=BF u2 CAk ZR Nw [ABQ,VW] Tryz.func25 IA0
def JA0 (d:As8):pV:=fun a b=>mk (cond (a == 1) ((d b).bind fun c=>some (⟨0,a,true,false,false,true,c,0⟩,true)) (cond (a == 2) ((d b).bind fun e=>some (⟨0,a,true,false,true,false,e,0⟩,true)) (cond (a == 3) (cond ((Aq5 b)<=100) (some (⟨0,a,false,false,false,false,b,0⟩,true)) (some (⟨0,0,false,false,false,false,IK,0⟩,false))) (some (⟨0,0,false,false,false,false,IK,0⟩,false)))))
def DAk:pV:=JA0 KZ
def MBW:Arb:=BF u2 DAk AIS Xa [VW] Tryz.func74 JA0
def KA0 (e:dW) (c:QZ):Yl:=fun b d a j=>mk (cond (!j) (AsJ (e 6)) (cond ((KU (As9 b))>=8) (AsJ (e 1)) (cond ((Qx b)>=1000) (AsJ (e 1)) (cond (Tf a) (cond (Arh a) ((c (Am b)).bind fun f=>some ([⟨3,IK,0,⟨Am b,a.Aa,true,true,ArW a,As4 a,AtN a,a.fNext⟩⟩],0,f)) ((c (Am b)).bind fun g=>some ([⟨3,IK,0,⟨Am b,a.Aa,true,d.CZ,ArW a,As4 a,AtN a,a.fNext⟩⟩],0,g))) (cond (Arh a) ((c (Am b)).bind fun h=>some ([⟨3,IK,0,⟨Am b,a.Aa,d.CY,true,ArW a,As4 a,AtN a,a.fNext⟩⟩],0,h)) ((c (Am b)).bind fun i=>some ([⟨3,IK,0,⟨Am b,a.Aa,d.CY,d.CZ,ArW a,As4 a,AtN a,a.fNext⟩⟩],0,i)))))))
def xG:Yl:=KA0 YH Xj
def PBC:Arb:=BF u4 xG ASH Nw [ABQ,GA0] Tryz.func75 KA0
def LA0 (h:QZ) (f:pV) (g:Yl):J7:=fun c a=>mk (cond (a.Aa == 2) ((h (Am c)).bind fun b=>cond (AsU b eG) (cond (AsU (b++eG) a.fText) ((f a.Aa ((b++eG)++a.fText)).bind fun d=>AsJ (g c a d.1 d.2)) none) none) ((f a.Aa a.fText).bind fun e=>AsJ (g c a e.1 e.2)))
def EAk:J7:=LA0 Xj DAk xG
def NBW:Arb:=BF u2 EAk ZR Nw [GA0,MBW,PBC] Tryz.func27 LA0
def MA0 (b:As8):VL:=fun a=>mk (FH (AsU qQ a.BN) (Lh (b (qQ++a.BN))))
def xH:VL:=MA0 KZ
def QBC:Arb:=BF u1 xH QN CS [VW] Tryz.func77 MA0
def NA0 (d e:QZ):As8:=fun b=>mk ((d (Aq5 b)).bind fun a=>FH (AsU a b) ((e ((FN (16 - ((Aq5 (a++b)).tmod 16))).tmod 16)).bind fun c=>FH (Hr a b c) (some ((a++b)++c))))
def xI:As8:=NA0 Wy YD
def RBC:Arb:=BF u1 xI CS CS [eu,QAi] Tryz.func131 NA0
def OA0 (d:Wl) (g:KAe) (h:As8):Au0:=fun e f=>mk ((d e 0 f).bind fun b=>(g b.1 0).bind fun a=>cond (!b.2) (LZ (IK,false)) (cond (!a.2.2) (LZ (IK,false)) (cond ((Aq5 a.1) > 400) (LZ (IK,false)) ((h a.1).bind fun c=>cond (!(EZ c b.1)) (LZ (IK,false)) (LZ (a.1,true))))))
def FAk:Au0:=OA0 lC AvA xI
def OBW:Arb:=BF u2 FAk KH Hw [XBB,YBB,RBC] Tryz.func76 OA0
def SBC:pW:=fun a=>mk (some ⟨0,a.Aa,Tf a,Arh a,false,As4 a,AtN a,0⟩)
def PA0:pW:=SBC
def PBW:Arb:=BF u1 PA0 RP RP [] Tryz.func79 SBC
def QA0 (h:VL) (i:Au0) (j:Yn) (l:pW) (g:Yl):J7:=fun a c=>mk ((h a).bind fun f=>(i f c.fText).bind fun b=>(j b.1).bind fun d=>(l d.1).bind fun e=>cond b.2 (AsJ (g a c e d.2)) (AsJ (g a c e false)))
def GAk:J7:=QA0 xH FAk ArX PA0 xG
def QBW:Arb:=BF u2 GAk ZR Nw [QBC,OBW,BBC,PBW,PBC] Tryz.func28 QA0
def RA0 (d:OL):pX:=fun a b=>mk ((d a).bind fun c=>JZ (!c) (some false) (JZ (b == 1) (some (!(Tf a))) (JZ (b == 2) (JZ (!(Arh a)) (some (a.Aa != 2)) (some false)) (JZ (b == 3) (some (ArW a)) (JZ (b == 4) (some (As4 a)) (some (b == 5)))))))
def HAk:pX:=RA0 Aui
def RBW:Arb:=BF u2 HAk ASM GK [KAY] Tryz.func80 RA0
inductive FAZ where
 |c0 (a:Int) (b:(List Cc)) (d e:Int)
def SBW:FAZ->Asu
 |.c0 a b d e=>(tdo Tryz.f31 104,[vi 1 a,vr 8 73 b,vi 9 d,vi 10 e],[])
def SA0 (k:AsB FAZ Int):Wh:=fun a b=>mk (k (.c0 b (Md a) (Tn a:Int) 0))
def IAk (k:AsB FAZ Int):AsB FAZ Int
 |.c0 d b c a=>mk (cond (ArF a c) (cond (AtW a b.length) (cond ((Ary b a).fId == d) (some a) (k (.c0 d b c (NM a)))) none) Au8)
def lg:ArS FAZ Int
 |0,_=>none
 |m+1,s=>IAk (lg m) s
def YM:Wh:=SA0 (lg AX)
def TA0:Arb:=fy u2 YM rZ E5 [] Tryz.func31 SBW IAk SA0 lg
def UA0 (e:At1) (f:Wh):Wh:=fun b d=>mk ((e (As9 b) d).bind fun a=>cond (!a.2) Au8 (cond (a.1.Aa != 2) Au8 ((f b d).bind fun c=>cond (Aue c) (cond (AtW c (Tn b)) (some (Ary (Md b) c).fNext) none) (some a.1.fNext))))
def aP:Wh:=UA0 TL YM
def TBC:Arb:=BF u2 aP rZ E5 [YAj,TA0] Tryz.func7 UA0
def VA0 (b:As8):As8:=fun c=>mk ((b c).bind fun a=>FH ((GN La AuL) && (decide (4<=(Aq5 a)))) (some (QD a AuL)))
def Px:As8:=VA0 KZ
def GAZ:Arb:=BF u1 Px CS CS [VW] Tryz.func267 VA0
inductive HAZ where
 |c0 (a:AA) (b d:Int) (e:(List AA))
def TBW:HAZ->Asu
 |.c0 a b d e=>(tdo Tryz.f222 232,[vs 0 a,vi 1 b,vo 5 368,vi 7 d],[(368,.sl 9 e)])
def WA0 (c:QZ) (d:As8) (k:AsB HAZ (List AA)):VN:=fun a b=>k (.c0 a b 0 [])
def JAk (a:QZ) (b:As8) (k:AsB HAZ (List AA)):AsB HAZ (List AA)
 |.c0 d h f g=>mk (cond (f<10) ((a h).bind fun c=>cond (AsU d c) ((a f).bind fun e=>cond (Hr d c e) (cond (AsU ((d++c)++e) (Arl ⟨#[111]⟩)) ((b (((d++c)++e)++(Arl ⟨#[111]⟩))).bind fun i=>cond (AuZ g) (k (.c0 d h (NM f) (g++[i]))) none) none) none) none) (some g))
def aj:ArS HAZ (List AA)
 |0,_=>none
 |m+1,s=>JAk Ass Px (aj m) s
def lN:VN:=WA0 Ass Px (aj AX)
def UBC:Arb:=fy u2 lN QM UJ [VX,GAZ] Tryz.func222 TBW JAk WA0 aj
def XA0:Mc:=fun a=>some 0
def KAk:Mc:=XA0
def UBW:Arb:=BF u1 KAk E5 E5 [] Tryz.func290 XA0
def YA0:Mc:=fun a=>some 15
def LAk:Mc:=YA0
def VBW:Arb:=BF u1 LAk E5 E5 [] Tryz.func291 YA0
inductive IAZ where
 |c0 (a:AA) (b d:Int) (e f g:Int)
def WBW:IAZ->Asu
 |.c0 a b d e f g=>(tdo Tryz.f266 104,[vs 0 a,vi 1 b,vi 2 d,vi 3 e,vi 13 f,vi 14 g],[])
def ZA0 (f:QZ) (g:As8) (k:AsB IAZ AA):SB:=fun b c d e a=>k (.c0 b c d e (ite (15<a) 15 a) 0)
def MAk (a:QZ) (b:As8) (k:AsB IAZ AA):AsB IAZ AA
 |.c0 g i j l h f=>mk (cond (ArF f h) ((a i).bind fun c=>(a j).bind fun d=>cond (AsU c d) ((a (D7 l f)).bind fun e=>cond (Hr c d e) (cond (Hr (c++d) e g) ((b (((c++d)++e)++g)).bind fun m=>k (.c0 m i j l h (NM f))) none) none) none) (some g))
def lQ:ArS IAZ AA
 |0,_=>none
 |m+1,s=>MAk Ass Px (lQ m) s
def AvM:SB:=ZA0 Ass Px (lQ AX)
def VBC:Arb:=fy u5 AvM ASN CS [VX,GAZ] Tryz.func266 WBW MAk ZA0 lQ
inductive JAZ where
 |c0 (a:Int) (b d:Nat) (e:AA) (f:(List AA)) (g h:Int)
def XBW:JAZ->Asu
 |.c0 a b d e f g h=>(tdo Tryz.f289 488,[vi 1 a,(2,[.one (.fn b)]),(3,[.one (.fn d)]),vs 9 e,vr 15 9 f,vi 16 g,vi 17 h],[])
def AMK (e f:Mc) (g:SB) (h:As8) (k:AsB JAZ AA):JAq:=fun a b c d=>mk (cond ((AuK a) != 10) Wx (k (.c0 b c d IK a (AuK a) 0)))
def NAk (a b:Mc) (c:SB) (d:As8) (k:AsB JAZ AA):AsB JAZ AA
 |.c0 j i f h g l e=>mk (cond (ArF e l) (cond (Oq e g) (cond (Nat.beq i 184) none (cond (Nat.beq i 273) none (cond (Nat.beq i 290) ((a e).bind fun m=>cond (Nat.beq f 184) none (cond (Nat.beq f 273) none (cond (Nat.beq f 290) ((a e).bind fun s=>(c (ArA g e IK) j e m s).bind fun n=>cond (AsU h n) (k (.c0 j i f (h++n) g l (NM e))) none) (cond (Nat.beq f 291) ((b e).bind fun t=>(c (ArA g e IK) j e m t).bind fun o=>cond (AsU h o) (k (.c0 j i f (h++o) g l (NM e))) none) none)))) (cond (Nat.beq i 291) ((b e).bind fun p=>cond (Nat.beq f 184) none (cond (Nat.beq f 273) none (cond (Nat.beq f 290) ((a e).bind fun u=>(c (ArA g e IK) j e p u).bind fun q=>cond (AsU h q) (k (.c0 j i f (h++q) g l (NM e))) none) (cond (Nat.beq f 291) ((b e).bind fun v=>(c (ArA g e IK) j e p v).bind fun r=>cond (AsU h r) (k (.c0 j i f (h++r) g l (NM e))) none) none)))) none)))) none) (Lh (d h)))
def YI:ArS JAZ AA
 |0,_=>none
 |m+1,s=>NAk KAk LAk AvM Px (YI m) s
def BA1:JAq:=AMK KAk LAk AvM Px (YI AX)
def YBW:Arb:=fy u4 BA1 Abc CS [UBW,VBW,VBC,GAZ] Tryz.func289 XBW NAk AMK YI
def CA1 (a:JAq):Yo:=fun b c=>mk (Lh (a b c 290 291))
def wP:Yo:=CA1 BA1
def ZBW:Arb:=BF u2 wP ru CS [YBW] Tryz.func264 CA1
inductive LAZ where
 |c0 (a:AA) (b:Int) (d:(List AA))
def Amj:LAZ->Asu
 |.c0 a b d=>(tdo Tryz.f220 232,[vs 0 a,vo 3 240,vi 5 b],[(240,.sl 9 d)])
def DA1 (b:VN) (c:Yo) (k:AsB LAZ (List AA)):Yp:=fun a=>k (.c0 a 0 [])
def OAk (a:VN) (b:Yo) (k:AsB LAZ (List AA)):AsB LAZ (List AA)
 |.c0 f c d=>mk (cond (c<4) ((a f c).bind fun e=>(b e c).bind fun g=>cond (AuZ d) (k (.c0 f (NM c) (d++[g]))) none) (some d))
def lS:ArS LAZ (List AA)
 |0,_=>none
 |m+1,s=>OAk lN wP (lS m) s
def wQ:Yp:=DA1 lN wP (lS AX)
def WBC:Arb:=fy u1 wQ CS UJ [UBC,ZBW] Tryz.func220 Amj OAk DA1 lS
def EA1 (e:QZ) (h:As8):Yq:=fun f g c d=>mk ((e f).bind fun a=>(e g).bind fun b=>FH (AsU a b) (FH (Hr a b c) (FH (Hr (a++b) c d) (FH (AsU (((a++b)++c)++d) (Arl ⟨#[110]⟩)) (Lh (h ((((a++b)++c)++d)++(Arl ⟨#[110]⟩))))))))
def YJ:Yq:=EA1 Ass Px
def BBX:Arb:=BF u4 YJ ASO CS [VX,GAZ] Tryz.func288 EA1
inductive NAZ where
 |c0 (a:Int) (b:(List AA)) (d:Int) (e:(List AA))
def CBX:NAZ->Asu
 |.c0 a b d e=>(tdo Tryz.f263 464,[vi 0 a,vr 1 9 b,vo 5 368,vi 6 d],[(368,.sl 9 e)])
def PAk (c:Yq) (k:AsB NAZ (List AA)):SC:=fun a b=>k (.c0 a b 0 [])
def wR (a:Yq) (k:AsB NAZ (List AA)):AsB NAZ (List AA)
 |.c0 f c b d=>mk (cond (ArF (NM b) (AuK c)) (cond (Oq b c) (cond (AtI (NM b) (AuK c)) ((a f (Au6 b) (ArA c b IK) (ArA c (NM b) IK)).bind fun e=>cond (AuZ d) (k (.c0 f c (FN (b+2)) (d++[e]))) none) none) none) (some d))
def YK:ArS NAZ (List AA)
 |0,_=>none
 |m+1,s=>wR YJ (YK m) s
def Arv:SC:=PAk YJ (YK AX)
def XBC:Arb:=fy u2 Arv ASP UJ [BBX] Tryz.func263 CBX wR PAk YK
inductive PAZ where
 |c0 (a:(List AA)) (b:Int)
 |c1 (b:Int) (a:(List AA))
def DBX:PAZ->Asu
 |.c0 a b=>(tdo Tryz.f219 464,[vr 0 9 a,vi 3 b],[])
 |.c1 b a=>(tdo Tryz.f219 464,[vo 0 48,vi 3 b],[(48,.sl 9 a)])
def FA1 (b:SC) (k:AsB PAZ AA):pY:=fun a=>mk (cond ((AuK a) != 4) Wx (k (.c0 a 1)))
def QAk (a:SC) (k:AsB PAZ AA):AsB PAZ AA
 |.c0 b d=>mk (cond ((AuK b) > 1) ((a d b).bind fun c=>k (.c1 (NM d) c)) (zM b))
 |.c1 d b=>mk (cond ((AuK b) > 1) ((a d b).bind fun c=>k (.c1 (NM d) c)) (zM b))
def lU:ArS PAZ AA
 |0,_=>none
 |m+1,s=>QAk Arv (lU m) s
def RAk:pY:=FA1 Arv (lU AX)
def EBX:Arb:=fy u1 RAk ASQ CS [XBC] Tryz.func219 DBX QAk FA1 lU
def GA1 (b:Yp) (d:pY):As8:=fun c=>mk ((b c).bind fun a=>Lh (d a))
def lV:As8:=GA1 wQ RAk
def YBC:Arb:=BF u1 lV CS CS [WBC,EBX] Tryz.func176 GA1
inductive QAZ where
 |c0 (a:Int) (d:AA) (e:Int) (b:(List Int))
 |c1 (a f g:Int) (b:(List Int))
def FBX:QAZ->Asu
 |.c0 a d e b=>(tdo Tryz.f265 1000,[vo 3 240,vi 4 a,vs 5 d,vi 11 e],[(240,.sl 3 b)])
 |.c1 a f g b=>(tdo Tryz.f265 2024,[vo 3 240,vi 4 a,vo 28 240,vi 29 f,vi 30 g],[(240,.sl 3 b)])
def IA1 (b:As8) (k:AsB QAZ (List Int)):ArT:=fun c=>(b c).bind fun a=>k (.c0 0 a 0 [])
def lW (a:As8) (k:AsB QAZ (List Int)):AsB QAZ (List Int)
 |.c0 e c b d=>mk (cond (b<4) (cond (AtI b (Aq5 c)) (cond (AtI b (Aq5 c)) (cond (Ic ((d.length+2)*8)) (k (.c0 e c (NM b) (d++[FN (OM (bt c b) (MN (IZ AuL) O5)),FN (w8 ((BitVec.toNat ((BitVec.ofInt O5 (bt c b)) &&& (BitVec.ofInt O5 15)):Nat):Int))]))) none) none) none) (k (.c1 e (NZ d) 0 d)))
 |.c1 d e c b=>mk (cond (ArF c e) (cond (AvD c b) (k (.c1 (D7 d (FN (15 - (Arc b c)))) e (NM c) b)) none) (Ard (Ic ((b.length+2)*8)) (FI (b++[eU d,d.tmod 16]))))
def V3:ArS QAZ (List Int)
 |0,_=>none
 |m+1,s=>lW Px (V3 m) s
def wS:ArT:=IA1 Px (V3 AX)
def GBX:Arb:=fy u1 wS CS JL [GAZ] Tryz.func265 FBX lW IA1 V3
inductive SAZ where
 |c0 (a:Int) (b:(List AA)) (d e:Int) (f:(List Int)) (g:(List AA))
def HBX:SAZ->Asu
 |.c0 a b d e f g=>(tdo Tryz.f221 1000,[vi 1 a,vo 7 496,vo 8 560,vr 16 9 b,vi 17 d,vi 18 e],[(496,.sl 3 f),(560,.sl 9 g)])
def JA1 (c:ArT) (f:SB) (k:AsB SAZ (List AA)):pq:=fun a e d=>mk (cond ((AuK a) != 10) (some []) ((c d).bind fun b=>k (.c0 e a (AuK a) 0 b [])))
def SAk (a:ArT) (b:SB) (k:AsB SAZ (List AA)):AsB SAZ (List AA)
 |.c0 i d g c e f=>mk (cond (ArF c g) (cond (Oq c d) (cond (AvD c e) ((b (ArA d c IK) i c 0 (Arc e c)).bind fun h=>cond (AuZ f) (k (.c0 i d g (NM c) e (f++[h]))) none) none) none) (some f))
def lX:ArS SAZ (List AA)
 |0,_=>none
 |m+1,s=>SAk wS AvM (lX m) s
def TAk:pq:=JA1 wS AvM (lX AX)
def IBX:Arb:=fy u3 TAk ASR UJ [GBX,VBC] Tryz.func221 HBX SAk JA1 lX
inductive TAZ where
 |c0 (a:(List AA)) (b d:Int) (e:(List AA))
 |c1 (b d:Int) (a e:(List AA))
def JBX:TAZ->Asu
 |.c0 a b d e=>(tdo Tryz.f223 976,[vr 0 9 a,vi 1 b,vo 5 368,vi 6 d],[(368,.sl 9 e)])
 |.c1 b d a e=>(tdo Tryz.f223 976,[vo 0 48,vi 1 b,vo 5 368,vi 6 d],[(48,.sl 9 a),(368,.sl 9 e)])
def KA1 (d:As1) (e:SC) (k:AsB TAZ (List AA)):pz:=fun a c=>mk (cond ((AuK a) != 4) (some []) ((d c 0 3).bind fun b=>cond (!b) (some []) (k (.c0 a c 1 []))))
def UAk (a:As1) (b:SC) (k:AsB TAZ (List AA)):AsB TAZ (List AA)
 |.c0 c d g e=>mk (cond ((AuK c) > 1) (cond (AtI (FN (zB d)) (AuK c)) (cond (AuZ e) ((b g c).bind fun f=>k (.c1 (Au6 d) (NM g) f (e++[c.getD (Ub (zB d)) (Arl IK)]))) none) none) (some e))
 |.c1 d g c e=>mk (cond ((AuK c) > 1) (cond (AtI (FN (zB d)) (AuK c)) (cond (AuZ e) ((b g c).bind fun f=>k (.c1 (Au6 d) (NM g) f (e++[c.getD (Ub (zB d)) (Arl IK)]))) none) none) (some e))
def YL:ArS TAZ (List AA)
 |0,_=>none
 |m+1,s=>UAk Je Arv (YL m) s
def VAk:pz:=KA1 Je Arv (YL AX)
def KBX:Arb:=fy u2 VAk ru UJ [Qk,XBC] Tryz.func223 JBX UAk KA1 YL
def LA1 (h:As1) (i:VN) (j:pq) (m:Yp) (n:pz):qA:=fun d a l=>mk ((h a 0 3).bind fun b=>cond (!b) (some (eH,false)) ((i d a).bind fun c=>(j c a l).bind fun e=>(m d).bind fun f=>(n f a).bind fun g=>some (⟨a,e,g⟩,true)))
def lY:qA:=LA1 Je lN TAk wQ VAk
def LBX:Arb:=BF u3 lY UH ASS [Qk,UBC,IBX,WBC,KBX] Tryz.func177 LA1
def MA1 (i:As1) (j:QZ) (l:As8) (g:qA):qB:=fun a c m=>mk ((i c 0 15).bind fun e=>cond (!e) (some (⟨eH,IK,eH⟩,false)) ((j (Y7 c)).bind fun b=>cond (AsU a b) (cond (AsU (a++b) qR) ((l ((a++b)++qR)).bind fun d=>(g ((a++b)++qR) (c.tmod 4) m).bind fun f=>cond (AsU a O8) ((g (a++O8) (Y7 c) d).bind fun h=>some (⟨h.1,d,f.1⟩,true)) none) none) none))
def WAk:qB:=MA1 Je Ass lV lY
def MBX:Arb:=BF u3 WAk UH ASU [Qk,VX,YBC,LBX] Tryz.func134 MA1
inductive UAZ where
 |c0 (a:(List AA)) (b:Int) (d:(List AA)) (e f:Int)
def NBX:UAZ->Asu
 |.c0 a b d e f=>(tdo Tryz.f268 104,[vr 0 9 a,vi 1 b,vr 7 9 d,vi 8 e,vi 9 f],[])
def NA1 (k:AsB UAZ Bool):KAq:=fun a b=>mk (k (.c0 a b a (AuK a) 0))
def OA1 (k:AsB UAZ Bool):AsB UAZ Bool
 |.c0 d e b c a=>mk (cond (ArF a c) (cond (Oq a b) (cond ((Aq5 (ArA b a IK)) != 4) (some false) (k (.c0 d e b c (NM a)))) none) (some ((AuK d) == e)))
def wU:ArS UAZ Bool
 |0,_=>none
 |m+1,s=>OA1 (wU m) s
def XAk:KAq:=NA1 (wU AX)
def OBX:Arb:=fy u2 XAk ru GK [] Tryz.func268 NBX OA1 NA1 wU
def PA1 (c:As1) (b:KAq):Yr:=fun a=>mk (Au1 (c a.GU 0 3) (Au1 (b a.FK 10) (Oo (b a.F8 2)) (some false)) (some false))
def wV:Yr:=PA1 Je XAk
def PBX:Arb:=BF u1 wV ACb GK [Qk,OBX] Tryz.func224 PA1
inductive XAZ where
 |c0 (a:AA) (b:(List AA)) (d e:Int) (f:Hu)
 |c1 (a:AA) (g:(List AA)) (h i:Int)
def QBX:XAZ->Asu
 |.c0 a d e f b=>(tdo Tryz.f178 488,[vp 1 64,vs 4 a,vr 16 9 d,vi 17 e,vi 18 f],[(64,.var [li b.GU,.BH 9 b.FK,.BH 9 b.F8])])
 |.c1 a g h i=>(tdo Tryz.f178 1000,[vs 4 a,vr 27 9 g,vi 28 h,vi 29 i],[])
def QA1 (d:Yr) (e:QZ) (k:AsB XAZ (AA×Bool)):qC:=fun a=>mk ((d a).bind fun b=>cond (!b) (LZ (IK,false)) ((e a.GU).bind fun c=>k (.c0 c a.FK (AuK a.FK) 0 a)))
def lZ (a:Yr) (b:QZ) (k:AsB XAZ (AA×Bool)):AsB XAZ (AA×Bool)
 |.c0 e d g c f=>mk (cond (ArF c g) (cond (Oq c d) (cond (AsU e (ArA d c IK)) (k (.c0 (e++(ArA d c IK)) d g (NM c) f)) none) none) (k (.c1 e f.F8 (AuK f.F8) 0)))
 |.c1 e d f c=>mk (cond (ArF c f) (cond (Oq c d) (cond (AsU e (ArA d c IK)) (k (.c1 (e++(ArA d c IK)) d f (NM c))) none) none) (LZ (e,true)))
def V4:ArS XAZ (AA×Bool)
 |0,_=>none
 |m+1,s=>lZ wV Ass (V4 m) s
def YAk:qC:=QA1 wV Ass (V4 AX)
def RBX:Arb:=fy u1 YAk ACb Hw [PBX,VX] Tryz.func178 QBX lZ QA1 V4
def RA1 (d:qC):qE:=fun a=>mk ((d a.PN).bind fun b=>(d a.PO).bind fun c=>cond (!b.2) (LZ (IK,false)) (cond (!c.2) (LZ (IK,false)) (cond ((Aq5 a.PI) != 4) (LZ (IK,false)) (Nc (AsU b.1 a.PI) (Nc (AsU (b.1++a.PI) c.1) (LZ ((b.1++a.PI)++c.1,true)))))))
def ZAk:qE:=RA1 YAk
def SBX:Arb:=BF u1 ZAk ASV Hw [RBX] Tryz.func135 RA1
def SA1 (e:Wh) (g:dW) (h:qB) (j:qE):SE:=fun f i a=>mk ((e f a.fId).bind fun b=>cond (b>=16) (AsJ (g 1)) ((h (AtN a) b i.fText).bind fun d=>(j d.1).bind fun c=>cond (b != a.fNext) (some ([],0,c.1)) (some ([⟨3,IK,0,⟨a.fId,a.Aa,Tf a,Arh a,ArW a,As4 a,AtN a,ite (16<(FN (a.fNext+3))) 16 (FN (a.fNext+3))⟩⟩],0,c.1))))
def AFU:SE:=SA1 aP YH WAk ZAk
def TBX:Arb:=BF u3 AFU ACc Nw [TBC,ABQ,MBX,SBX] Tryz.func81 SA1
def TA1 (g:Yi) (h:AvH) (i:Yj):Wl:=fun d e f=>mk ((g d e (Aq5 f)).bind fun b=>cond (!b.2) (LZ (IK,false)) ((h f b.1).bind fun a=>(i d e a).bind fun c=>Nc (AsU a c) (LZ (a++c,true))))
def wu:Wl:=TA1 wI wK wJ
def ZBC:Arb:=BF u3 wu UH Hw [UBB,WBB,VBB] Tryz.func34 TA1
def UA1 (d:As8) (e:Wl):Au0:=fun f b=>mk (cond ((Aq5 b) > 400) (LZ (IK,false)) ((d b).bind fun c=>(e f 0 c).bind fun a=>LZ (a.1,a.2)))
def BAl:Au0:=UA1 xI wu
def UBX:Arb:=BF u2 BAl KH Hw [RBC,ZBC] Tryz.func83 UA1
inductive ZAZ where
 |c0 (a:AA) (b:Int) (d e:(List Int))
def VBX:ZAZ->Asu
 |.c0 a b d e=>(tdo Tryz.f293 232,[vs 0 a,vp 2 128,vp 3 192,vi 5 b],[(128,.ar 245 d),(192,.ar 245 e)])
def VA1 (k:AsB ZAZ (List Int)):ArT:=fun a=>mk (k (.c0 a 0 Y6 Y6))
def WA1 (k:AsB ZAZ (List Int)):AsB ZAZ (List Int)
 |.c0 c b d a=>mk (cond (b<200) (cond (Ie a) (cond (Jc (Ns b) a) (cond (AtI b (Aq5 c)) (cond (AuS (FN (8*(b.tmod 8)))) (cond (Ie a) (cond (Jc (Ns b) a) (k (.c0 c (NM b) d (a.set (Ub (Ns b)) (Atq (Y4 Art (Jd a (Ns b)) (Atq ((Atq (bt c b))*(MN (Ub (8*(b.tmod 8))) Art)))))))) none) none) none) none) none) none) (Ard (Ie a) (Ard ((Aq6 a d) && (Ie a)) (Ard ((Ie a) && true) (FI a)))))
def mW:ArS ZAZ (List Int)
 |0,_=>none
 |m+1,s=>WA1 (mW m) s
def CAl:ArT:=VA1 (mW AX)
def WBX:Arb:=fy u1 CAl CS UG [] Tryz.func293 VBX WA1 VA1 mW
def XA1:AsW:=fun b a=>mk (cond (AuS (Atq (64 - (UAe a)))) (some (Atq (Y4 Art (Atq (b*(MN (IZ (UAe a)) Art))) (OM b (MN (IZ (Atq (64 - (UAe a)))) Art))))) none)
def YO:AsW:=XA1
def AYb:Arb:=BF u2 YO ASW sF [] Tryz.func324 XA1
inductive ABg where
 |c0 (e:(List Int)) (f:Int) (a b d:(List Int))
 |c1 (g:Int) (a b d:(List Int))
def XBX:ABg->Asu
 |.c0 e f a b d=>(tdo Tryz.f306 232,[vp 1 64,vp 2 128,vp 3 192,(8,[.arr 245 e]),vi 9 f],[(64,.ar 245 a),(128,.ar 245 b),(192,.ar 245 d)])
 |.c1 g a b d=>(tdo Tryz.f306 488,[vp 1 64,vp 2 128,vp 3 192,vi 21 g],[(64,.ar 245 a),(128,.ar 245 b),(192,.ar 245 d)])
def YA1 (b:AsW) (k:AsB ABg (List Int)):Ud:=fun a=>mk (cond (Ie a) (k (.c0 a 0 a Y6 [0,0,0,0,0])) none)
def xM (a:AsW) (k:AsB ABg (List Int)):AsB ABg (List Int)
 |.c0 d b e f c=>mk (cond (b<25) (cond (Ie d) (cond (AvD b d) (cond (Nat.beq 5 c.length) (cond (AtI (AvG b) (NZ c)) (cond (Nat.beq 5 c.length) (cond (AtI (AvG b) (NZ c)) (k (.c0 d (NM b) e f (c.set (IZ (AvG b)) (Atq (Arj Art (Arc c (AvG b)) (Arc d b)))))) none) none) none) none) none) none) (k (.c1 0 e f c)))
 |.c1 c b f d=>mk (cond (c<25) (cond (Ie b) (cond (AvD c b) (cond (Nat.beq 5 d.length) (cond (AtI (AvG (FN ((AvG c)+4))) (NZ d)) (cond (Nat.beq 5 d.length) (cond (AtI (AvG (NM (AvG c))) (NZ d)) ((a (Arc d (AvG (NM (AvG c)))) 1).bind fun e=>cond (Ie b) (cond (AvD c b) (k (.c1 (NM c) (b.set (IZ c) (Atq (Arj Art (Arc b c) (Atq (Arj Art (Arc d (AvG (FN ((AvG c)+4)))) e))))) f d)) none) none) none) none) none) none) none) none) (Ard (Ie b) (Ard ((Aq6 b f) && (Ie b)) (Ard ((Ie b) && true) (FI b)))))
def V9:ArS ABg (List Int)
 |0,_=>none
 |m+1,s=>xM YO (V9 m) s
def xK:Ud:=YA1 YO (V9 AX)
def YBX:Arb:=fy u1 xK UG UG [AYb] Tryz.func306 XBX xM YA1 V9
inductive DAa where
 |c0 (a b d:Int) (e f g:(List Int))
def ZBX:DAa->Asu
 |.c0 a b d e f g=>(tdo Tryz.f307 1000,[vp 1 64,vp 2 128,vp 3 192,vi 4 a,vi 5 b,vi 13 d],[(64,.ar 245 e),(128,.ar 245 f),(192,.ar 245 g)])
def ZA1 (b:AsW) (k:AsB DAa (List Int)):Ud:=fun a=>mk (cond (Ie a) (cond (UC a) (k (.c0 1 0 0 a Y6 [Arc a La,0,0,0,0,0,0,0,0,0,0,0,0,0,0,0,0,0,0,0,0,0,0,0,0])) none) none)
def ANM (a:AsW) (k:AsB DAa (List Int)):AsB DAa (List Int)
 |.c0 d b e f h c=>mk (cond (e<24) (cond (Ie f) (cond (Jc (KX d b) f) ((a (Jd f (KX d b)) ((Au6 (FN ((NM e)*(FN (e+2))))).tmod 64)).bind fun g=>cond (Ie c) (cond (Jc (KX b (eX d b)) c) (k (.c0 b (eX d b) (NM e) f h (c.set (Ub (KX b (eX d b))) g))) none) none) none) none) (Ard (Ie c) (Ard ((Aq6 c h) && (Ie c)) (Ard ((Ie c) && true) (FI c)))))
def mX:ArS DAa (List Int)
 |0,_=>none
 |m+1,s=>ANM YO (mX m) s
def xO:Ud:=ZA1 YO (mX AX)
def AnA:Arb:=fy u1 xO UG UG [AYb] Tryz.func307 ZBX ANM ZA1 mX
inductive FAa where
 |c0 (a:Int) (b d e:(List Int))
 |c1 (f a g:Int) (b d e:(List Int))
def BBY:FAa->Asu
 |.c0 a b d e=>(tdo Tryz.f308 232,[vp 1 64,vp 2 128,vp 3 192,vi 6 a],[(64,.ar 245 b),(128,.ar 245 d),(192,.ar 245 e)])
 |.c1 f a g b d e=>(tdo Tryz.f308 59800,[vp 1 64,vp 2 128,vp 3 192,vi 4 f,vi 6 a,vi 9 g],[(64,.ar 245 b),(128,.ar 245 d),(192,.ar 245 e)])
def BA2 (k:AsB FAa (List Int)):Ud:=fun a=>mk (k (.c0 0 a Y6 Y6))
def DAl (k:AsB FAa (List Int)):AsB FAa (List Int)
 |.c0 b d c a=>mk (cond (b<5) (k (.c1 b b 0 d c a)) (Ard (Ie a) (Ard ((Aq6 a c) && (Ie a)) (Ard ((Ie a) && true) (FI a)))))
 |.c1 c e b a f d=>mk (cond (b<5) (cond (Ie a) (cond (Jc (KX b c) a) (cond (Ie a) (cond (Jc ((AvG (NM b))+(FN (5*c))) a) (cond (Ie a) (cond (Jc ((AvG (FN (b+2)))+(FN (5*c))) a) (cond (Ie d) (cond (Jc (KX b c) d) (k (.c1 c e (NM b) a f (d.set (Ub (KX b c)) (Atq (Arj Art (Jd a (KX b c)) (Atq (O4 Art (Atq ((BitVec.toNat ((BitVec.ofInt Art (ite ((IntKind.signed IntKind.u64) = true) (-ArE) (IntKind.max IntKind.u64))) ^^^ (BitVec.ofInt Art (Jd a ((AvG (NM b))+(FN (5*c)))))):Nat):Int)) (Jd a ((AvG (FN (b+2)))+(FN (5*c))))))))))) none) none) none) none) none) none) none) none) (k (.c0 (NM e) a f d)))
def YP:ArS FAa (List Int)
 |0,_=>none
 |m+1,s=>DAl (YP m) s
def xP:Ud:=BA2 (YP AX)
def CBY:Arb:=fy u1 xP UG UG [] Tryz.func308 BBY DAl BA2 YP
inductive HAa where
 |c0 (a b d:Int)
def DBY:HAa->Asu
 |.c0 a b d=>(tdo Tryz.f325 232,[vi 3 a,vi 4 b,vi 5 d],[])
def BBD (k:AsB HAa Int):Mc:=fun a=>k (.c0 1 a 0)
def CBD (k:AsB HAa Int):AsB HAa Int
 |.c0 a c b=>mk (cond (ArF b c) (cond ((FN (a*(Q8 ArE)))>=256) (k (.c0 (FN (QAe Auc (VAe (a*(Q8 ArE))))) c (NM b))) (k (.c0 (FN (a*(Q8 ArE))) c (NM b)))) (some (Atq (FN (VQ Auc a)))))
def CA2:ArS HAa Int
 |0,_=>none
 |m+1,s=>CBD (CA2 m) s
def DA2:Mc:=BBD (CA2 AX)
def EBY:Arb:=fy u1 DA2 E5 sF [] Tryz.func325 DBY CBD BBD CA2
inductive IAa where
 |c0 (a b d:Int)
def FBY:IAa->Asu
 |.c0 a b d=>(tdo Tryz.f309 232,[vi 0 a,(3,[.one (.int .u64 b)]),vi 5 d],[])
def DBD (b:Mc) (k:AsB IAa Int):Mc:=fun a=>k (.c0 a 0 0)
def EBD (a:Mc) (k:AsB IAa Int):AsB IAa Int
 |.c0 d e b=>mk (cond (b<7) ((a (D7 b (FN (7*d)))).bind fun c=>cond (AuS b) (cond (AuS (Atq ((Atq (1*(MN (IZ b) Art))) - 1))) (k (.c0 d (Atq (Y4 Art e (Atq (c*(MN (IZ (Atq ((Atq (1*(MN (IZ b) Art))) - 1))) Art))))) (NM b))) none) none) (some e))
def EA2:ArS IAa Int
 |0,_=>none
 |m+1,s=>EBD DA2 (EA2 m) s
def EAl:Mc:=DBD DA2 (EA2 AX)
def GBY:Arb:=fy u1 EAl E5 sF [EBY] Tryz.func309 FBY EBD DBD EA2
inductive JAa where
 |c0 (a:Int) (b d:(List Int))
def HBY:JAa->Asu
 |.c0 a b d=>(tdo Tryz.f292 104,[vp 1 64,vp 2 128,vi 4 a],[(64,.ar 245 b),(128,.ar 245 d)])
def FA2 (b c d:Ud) (e:Mc) (k:AsB JAa (List Int)):Ud:=fun a=>mk (k (.c0 0 a Y6))
def GA2 (a b c:Ud) (d:Mc) (k:AsB JAa (List Int)):AsB JAa (List Int)
 |.c0 g f l=>mk (cond (g<24) (cond (Ie f) ((a f).bind fun h=>(b h).bind fun i=>(c i).bind fun e=>cond ((Aq6 e f) && (Ie e)) (cond (Ie e) (cond (UC e) ((d g).bind fun j=>cond (Ie e) (cond (UC e) (k (.c0 (NM g) (e.set (IZ La) (Atq (Arj Art (Arc e La) j))) l)) none) none) none) none) none) none) (Ard (Ie f) (Ard ((Aq6 f l) && (Ie f)) (Ard ((Ie f) && true) (FI f)))))
def xQ:ArS JAa (List Int)
 |0,_=>none
 |m+1,s=>GA2 xK xO xP EAl (xQ m) s
def FAl:Ud:=FA2 xK xO xP EAl (xQ AX)
def IBY:Arb:=fy u1 FAl UG UG [YBX,AnA,CBY,GBY] Tryz.func292 HBY GA2 FA2 xQ
inductive LAa where
 |c0 (a b:Int) (d e:(List Int))
def JBY:LAa->Asu
 |.c0 a b d e=>(tdo Tryz.f294 232,[vp 1 64,vo 3 240,vi 7 a,vi 8 b],[(64,.ar 245 d),(240,.sl 5 e)])
def IA2 (k:AsB LAa AA):Ate:=fun a=>mk (k (.c0 (NZ (Q7 (200:Int))) 0 a (Q7 (200:Int))))
def JA2 (k:AsB LAa AA):AsB LAa AA
 |.c0 d a b c=>mk (cond (ArF a d) (cond (Ie b) (cond (Jc (Ns a) b) (cond (AuS (FN (8*(a.tmod 8)))) (cond (AvD a c) (k (.c0 d (NM a) b (c.set (IZ a) (w8 (OM (Jd b (Ns a)) (MN (Ub (8*(a.tmod 8))) Art)))))) none) none) none) none) (Ll c))
def mZ:ArS LAa AA
 |0,_=>none
 |m+1,s=>JA2 (mZ m) s
def GAl:Ate:=IA2 (mZ AX)
def KBY:Arb:=fy u1 GAl UG CS [] Tryz.func294 JBY JA2 IA2 mZ
def KA2 (d:ArT) (e:Ud) (f:Ate):As8:=fun a=>mk (cond ((Aq5 a) != 200) (some a) ((d a).bind fun b=>(e b).bind fun c=>Lh (f c)))
def bH:As8:=KA2 CAl FAl GAl
def FBD:Arb:=BF u1 bH CS CS [WBX,IBY,KBY] Tryz.func270 KA2
inductive MAa where
 |c0 (a:Int) (b:(List Int))
 |c1 (a d:Int) (b e:(List Int))
 |c2 (a d:Int) (f g:Int) (b e:(List Int))
def LBY:MAa->Asu
 |.c0 a b=>(tdo Tryz.f269 224,[vi 1 a,vo 7 496],[(496,.sl 5 b)])
 |.c1 a d b e=>(tdo Tryz.f269 4048,[vi 1 a,vo 7 496,vo 8 560,vi 9 d],[(496,.sl 5 b),(560,.sl 5 e)])
 |.c2 a d f g b e=>(tdo Tryz.f269 259208,[vi 1 a,vo 7 496,vo 8 560,vi 9 d,vi 40 f,vi 41 g],[(496,.sl 5 b),(560,.sl 5 e)])
def LA2 (d:As8) (k:AsB MAa AA):qF:=fun a b c=>mk (cond (QB a) (cond (Qo (LJ a)) (k (.c0 b ((LJ a)++[c]))) none) none)
def YQ (a:As8) (k:AsB MAa AA):AsB MAa AA
 |.c0 c b=>mk (cond (!(Aup c)) (cond (((NZ b).tmod c) != 0) (cond (Qo b) (k (.c0 c (b++[La]))) none) (cond (Jc ((NZ b) - 1) b) (cond (Jc ((NZ b) - 1) b) (k (.c1 c 0 (TAq b) (Q7 (200:Int)))) none) none)) none)
 |.c1 d b c e=>mk (cond (ArF b (NZ c)) (k (.c2 d b d 0 c e)) (Ll e))
 |.c2 f d h b e c=>mk (cond (ArF b h) (cond (AvD b c) (cond (Jc (d+b) e) (cond (AvD b c) (k (.c2 f d h (NM b) e (c.set (IZ b) (w8 (Arj O5 (Arc c b) (Jd e (d+b))))))) none) none) none) ((a (ofBytes c)).bind fun g=>cond (QB g) (k (.c1 f (D7 d f) e (LJ g))) none))
def AvQ:ArS MAa AA
 |0,_=>none
 |m+1,s=>YQ bH (AvQ m) s
def xR:qF:=LA2 bH (AvQ AX)
def MBY:Arb:=fy u3 xR ASX CS [FBD] Tryz.func269 LBY YQ LA2 AvQ
def MA2 (b:qF):Asb:=fun c=>(b c 168 31).bind fun a=>some ⟨a,0⟩
def mg:Asb:=MA2 xR
def GBD:Arb:=BF u1 mg CS ASY [MBY] Tryz.func230 MA2
inductive OAa where
 |c0 (a:Int) (b:AA) (d e:FY)
def NBY:OAa->Asu
 |.c0 d e a b=>(tdo Tryz.f231 480,[vi 1 d,vp 2 128,vp 4 256,vs 6 e],[(128,.var [.str a.FZ,li a.D8]),(256,.var [.str b.FZ,li b.D8])])
def NA2 (c:As1) (f:As8) (k:AsB OAa (FY×AA)):VP:=fun a d=>mk ((c d 0 4000).bind fun b=>cond (!b) (some (a,IK)) (cond ((Aq5 a.FZ) != 200) (some (a,IK)) ((c a.D8 0 168).bind fun e=>cond (!e) (some (a,IK)) (k (.c0 d IK a ⟨IK,0⟩)))))
def OA2 (a:As1) (b:As8) (k:AsB OAa (FY×AA)):AsB OAa (FY×AA)
 |.c0 e c d g=>mk (cond (ArF (Aq5 c) e) (cond (d.D8 == 168) ((b d.FZ).bind fun f=>cond (((decide (La<=La)) && (AuS (FN (0+(ite (Pn<(Lm e c)) Pn (Lm e c)))))) && (GN (FN (0+(ite (Pn<(Lm e c)) Pn (Lm e c)))) (Aq5 f))) (cond (AsU c (Jl f La (0+(ite (Pn<(Lm e c)) Pn (Lm e c))))) (k (.c0 e (c++(Jl f La (0+(ite (Pn<(Lm e c)) Pn (Lm e c))))) ⟨f,FN (0+(ite (Pn<(Lm e c)) Pn (Lm e c)))⟩ g)) none) none) (cond (AuB d.D8 (FN (d.D8+(ite ((Qr d)<(Lm e c)) (Qr d) (Lm e c)))) (Aq5 d.FZ)) (cond (AsU c (Jl d.FZ d.D8 (d.D8+(ite ((Qr d)<(Lm e c)) (Qr d) (Lm e c))))) (k (.c0 e (c++(Jl d.FZ d.D8 (d.D8+(ite ((Qr d)<(Lm e c)) (Qr d) (Lm e c))))) ⟨d.FZ,FN (d.D8+(ite ((Qr d)<(Lm e c)) (Qr d) (Lm e c)))⟩ g)) none) none)) (some (d,c)))
def nC:ArS OAa (FY×AA)
 |0,_=>none
 |m+1,s=>OA2 Je bH (nC m) s
def bI:VP:=NA2 Je bH (nC AX)
def HBD:Arb:=fy u2 bI ASZ ASa [Qk,FBD] Tryz.func231 NBY OA2 NA2 nC
def PA2 (e:As1) (f:Asb) (h:VP):Yu:=fun g b=>mk ((e b 0 4000).bind fun a=>cond (!a) (LZ (IK,false)) ((f g).bind fun c=>(h c b).bind fun d=>LZ (d.2,true)))
def nD:Yu:=PA2 Je mg bI
def OBY:Arb:=BF u2 nD QM Hw [Qk,GBD,HBD] Tryz.func229 PA2
def QA2:Mc:=fun a=>mk (some (Y2 ((a.tmod 3329)+3329)))
def AsG:Mc:=QA2
def PAa:Arb:=BF u1 AsG E5 E5 [] Tryz.func228 QA2
inductive QAa where
 |c0 (a:AA) (b d:Int) (e:(List Int))
def PBY:QAa->Asu
 |.c0 a b d e=>(tdo Tryz.f180 488,[vs 5 a,vo 7 496,vi 20 b,vi 21 d],[(496,.sl 3 e)])
def RA2 (d:QZ) (f:Yu) (g:Mc) (k:AsB QAa (List Int)):Uy:=fun b e=>mk ((d e).bind fun a=>cond (AsU b a) ((f (b++a) 128).bind fun c=>k (.c0 c.1 (NZ XQ) 0 XQ)) none)
def SA2 (a:QZ) (b:Yu) (c:Mc) (k:AsB QAa (List Int)):AsB QAa (List Int)
 |.c0 e g d f=>mk (cond (ArF d g) (cond (AtI (Au6 d) (Aq5 e)) (cond (AuS (FN (4*(d.tmod 2)))) ((c (ArU (ArU (Nj (VQ Auc (zG e d)) (VQ Auc (OM (zG e d) (Q8 ArE)))) (FN (VQ Auc (OM (zG e d) (Q8 (2:Int)))))) (FN (VQ Auc (OM (zG e d) (Q8 (3:Int))))))).bind fun h=>cond (AvD d f) (k (.c0 e g (NM d) (f.set (IZ d) h))) none) none) none) (FI f))
def nG:ArS QAa (List Int)
 |0,_=>none
 |m+1,s=>SA2 Ass nD AsG (nG m) s
def xU:Uy:=RA2 Ass nD AsG (nG AX)
def QBY:Arb:=fy u2 xU QM JL [VX,OBY,PAa] Tryz.func180 PBY SA2 RA2 nG
inductive SAa where
 |c0 (a:AA) (b d:Int) (e:(List (List Int)))
def RBY:SAa->Asu
 |.c0 a b d e=>(tdo Tryz.f139 232,[vs 0 a,vi 1 b,vo 5 368,vi 7 d],[(368,.sl 100 e)])
def TA2 (c:Uy) (k:AsB SAa (List (List Int))):LAe:=fun a b=>k (.c0 a b 0 [])
def HAl (a:Uy) (k:AsB SAa (List (List Int))):AsB SAa (List (List Int))
 |.c0 e f b c=>mk (cond (UA b) ((a e (D7 f b)).bind fun d=>cond (XP c) (k (.c0 e f (NM b) (c++[d]))) none) (some c))
def xW:ArS SAa (List (List Int))
 |0,_=>none
 |m+1,s=>HAl xU (xW m) s
def Zc:LAe:=TA2 xU (xW AX)
def SBY:Arb:=fy u2 Zc QM ACS [QBY] Tryz.func139 RBY HAl TA2 xW
inductive UAa where
 |c0 (a b:(List Int)) (d e:Int)
def TBY:UAa->Asu
 |.c0 a b d e=>(tdo Tryz.f181 104,[vr 0 3 a,vr 5 3 b,vi 6 d,vi 7 e],[])
def UA2 (b:As1) (k:AsB UAa Bool):AuJ:=fun a=>mk (k (.c0 a a (NZ a) 0))
def IAl (a:As1) (k:AsB UAa Bool):AsB UAa Bool
 |.c0 f c d b=>mk (cond (ArF b d) (cond (AvD b c) ((a (Arc c b) 0 3328).bind fun e=>cond (!e) (some false) (k (.c0 f c d (NM b)))) none) (some ((NZ f) == 256)))
def nH:ArS UAa Bool
 |0,_=>none
 |m+1,s=>IAl Je (nH m) s
def Ar2:AuJ:=UA2 Je (nH AX)
def JAl:Arb:=fy u1 Ar2 VZ GK [Qk] Tryz.func181 TBY IAl UA2 nH
def VA2:Ud:=fun a=>mk (Ard (Ic (a.length*8)) (FI a))
def xX:Ud:=VA2
def UBY:Arb:=BF u1 xX VZ JL [] Tryz.func225 VA2
inductive WAa where
 |c0 (a b d:Int)
def VBY:WAa->Asu
 |.c0 a b d=>(tdo Tryz.f227 232,[vi 0 a,vi 3 b,vi 5 d],[])
def WA2 (k:AsB WAa Int):Mc:=fun a=>k (.c0 a 0 0)
def XA2 (k:AsB WAa Int):AsB WAa Int
 |.c0 b c a=>mk (cond (a<7) (cond (AuS a) (k (.c0 b (Nj (2*c) (VQ Auc (OM b (Q8 a)))) (NM a))) none) (some c))
def xY:ArS WAa Int
 |0,_=>none
 |m+1,s=>XA2 (xY m) s
def bJ:Mc:=WA2 (xY AX)
def IBD:Arb:=fy u1 bJ E5 E5 [] Tryz.func227 VBY XA2 WA2 xY
inductive YAa where
 |c0 (a b d:Int)
def WBY:YAa->Asu
 |.c0 a b d=>(tdo Tryz.f226 992,[vi 0 a,vi 1 b,vi 5 d],[])
def YA2 (d:As1) (e:Mc) (k:AsB YAa Int):AsW:=fun f b=>(d b 0 1000000000).bind fun a=>cond (!a) (some 0) ((e f).bind fun c=>k (.c0 c b 1))
def ZA2 (a:As1) (b:Mc) (k:AsB YAa Int):AsB YAa Int
 |.c0 c d e=>mk (cond (Rn d) (cond (OQ d) (k (.c0 (Y2 (c*c)) (Au6 d) (dZ e c))) (k (.c0 (Y2 (c*c)) (Au6 d) e))) (some e))
def xZ:ArS YAa Int
 |0,_=>none
 |m+1,s=>ZA2 Je AsG (xZ m) s
def bK:AsW:=YA2 Je AsG (xZ AX)
def JBD:Arb:=fy u2 bK rU E5 [Qk,PAa] Tryz.func226 WBY ZA2 YA2 xZ
inductive ABv where
 |c0 (a b:Int) (d:(List Int))
 |c1 (a b e:Int) (d:(List Int))
 |c2 (a b:Int) (e f g:Int) (d:(List Int))
def XBY:ABv->Asu
 |.c0 a b d=>(tdo Tryz.f179 2000,[vo 3 240,vi 4 a,vi 5 b],[(240,.sl 3 d)])
 |.c1 a b e d=>(tdo Tryz.f179 128144,[vo 3 240,vi 4 a,vi 5 b,vi 6 e],[(240,.sl 3 d)])
 |.c2 a b e f g d=>(tdo Tryz.f179 32805488,[vo 3 240,vi 4 a,vi 5 b,vi 6 e,vi 7 f,vi 8 g],[(240,.sl 3 d)])
def ANl (d:AuJ) (e:Ud) (f:Mc) (g:AsW) (h:Mc) (k:AsB ABv (List Int)):Ud:=fun b=>mk ((d b).bind fun a=>cond (!a) (FI []) ((e b).bind fun c=>k (.c0 1 128 c)))
def bP (a:AuJ) (b:Ud) (c:Mc) (d:AsW) (e:Mc) (k:AsB ABv (List Int)):AsB ABv (List Int)
 |.c0 h f g=>mk (cond (f>=2) (k (.c1 h f 0 g)) (FI g))
 |.c1 g j f l=>mk (cond (RF f) ((c g).bind fun h=>(d 17 h).bind fun i=>k (.c2 (NM g) j f i f l)) (k (.c0 g (Au6 j) l)))
 |.c2 n h i l f g=>mk (cond (ArF f (D7 i h)) (cond (Jc (f+h) g) (cond (AvD f g) ((e (D7 (Arc g f) (FN (l*(Jd g (f+h)))))).bind fun j=>cond (AvD f g) ((e (ArU (Arc g f) (FN (l*(Jd g (f+h)))))).bind fun m=>cond (AvD f g) (cond (Jc (f+h) (g.set (IZ f) j)) (k (.c2 n h i l (NM f) ((g.set (IZ f) j).set (Ub (f+h)) m))) none) none) none) none) none) (k (.c1 n h (D7 i (FN (2*h))) g)))
def Py:ArS ABv (List Int)
 |0,_=>none
 |m+1,s=>bP Ar2 xX bJ bK AsG (Py m) s
def bM:Ud:=ANl Ar2 xX bJ bK AsG (Py AX)
def KBD:Arb:=fy u1 bM VZ JL [JAl,UBY,IBD,JBD,PAa] Tryz.func179 XBY bP ANl Py
inductive BAb where
 |c0 (a:(List (List Int))) (b d:Int) (e:(List (List Int)))
def YBY:BAb->Asu
 |.c0 a b d e=>(tdo Tryz.f138 232,[vo 3 240,vr 6 100 a,vi 7 b,vi 8 d],[(240,.sl 100 e)])
def BA3 (b:Ud) (k:AsB BAb (List (List Int))):MAe:=fun a=>k (.c0 a (a.length:Int) 0 [])
def CA3 (a:Ud) (k:AsB BAb (List (List Int))):AsB BAb (List (List Int))
 |.c0 c e b d=>mk (cond (ArF b e) (cond (AtW b c.length) ((a (c.getD (IZ b) [])).bind fun f=>cond (XP d) (k (.c0 c e (NM b) (d++[f]))) none) none) (some d))
def KAl:ArS BAb (List (List Int))
 |0,_=>none
 |m+1,s=>CA3 bM (KAl m) s
def Zd:MAe:=BA3 bM (KAl AX)
def ZBY:Arb:=fy u1 Zd Abd ACS [KBD] Tryz.func138 YBY CA3 BA3 KAl
inductive CAb where
 |c0 (a b:Int) (d:FY) (e:(List Int))
 |c1 (a b:Int) (f g:Int) (d:FY) (e h:(List Int))
def Anb:CAb->Asu
 |.c0 b d a e=>(tdo Tryz.f186 2000,[vp 7 448,vo 8 560,vi 9 b,vi 10 d],[(448,.var [.str a.FZ,li a.D8]),(560,.sl 3 e)])
 |.c1 b d f g a e h=>(tdo Tryz.f186 512632,[vp 7 448,vo 8 560,vi 9 b,vi 10 d,vo 60 3888,vi 61 f,vi 62 g],[(448,.var [.str a.FZ,li a.D8]),(560,.sl 3 e),(3888,.sl 3 h)])
def DA3 (d:QZ) (h:Asb) (i:VP) (k:AsB CAb (List Int)):Yt:=fun b f g=>mk ((d f).bind fun a=>cond (AsU b a) ((d g).bind fun c=>cond (Hr b a c) ((h ((b++a)++c)).bind fun e=>k (.c0 0 0 e XQ)) none) none)
def nI (a:QZ) (b:Asb) (c:VP) (k:AsB CAb (List Int)):AsB CAb (List Int)
 |.c0 g f h e=>mk (cond (f<4000) (cond (RF g) ((c h 3).bind fun d=>cond (XJ La (Aq5 d.2)) (cond (zO (Aq5 d.2)) (cond (zK (Aq5 d.2)) (k (.c1 g f ((2:Nat):Int) 0 d.1 e [Nj (bt d.2 0) (((FN (bt d.2 1)).tmod 16)*256),Nj ((FN (bt d.2 1)).tdiv 16) (16*(FN (bt d.2 2)))])) none) none) none) (FI e)) (FI e))
 |.c1 e i h d j g f=>mk (cond (ArF d h) (cond (AvD d f) (cond (Y8 (Arc f d)) (cond (RF e) (cond (AvD e g) (k (.c1 (NM e) i h (NM d) j (g.set (IZ e) (Arc f d)) f)) none) (k (.c1 e i h (NM d) j g f))) (k (.c1 e i h (NM d) j g f))) none) (k (.c0 e (NM i) j g)))
def At4:ArS CAb (List Int)
 |0,_=>none
 |m+1,s=>nI Ass mg bI (At4 m) s
def ZW:Yt:=DA3 Ass mg bI (At4 AX)
def BBZ:Arb:=fy u3 ZW rW JL [VX,GBD,HBD] Tryz.func186 Anb nI DA3 At4
inductive DAb where
 |c0 (a:AA) (b:Int) (d:Bool) (e:Int) (f:(List (List Int)))
def CBZ:DAb->Asu
 |.c0 a b d e f=>(tdo Tryz.f143 232,[vs 0 a,vi 1 b,vb 2 d,vo 7 496,vi 9 e],[(496,.sl 100 f)])
def EA3 (d:Yt) (k:AsB DAb (List (List Int))):NAe:=fun a b c=>k (.c0 a b c 0 [])
def FA3 (a:Yt) (k:AsB DAb (List (List Int))):AsB DAb (List (List Int))
 |.c0 d e f b c=>mk (cond (UA b) (cond f ((a d e b).bind fun g=>cond (XP c) (k (.c0 d e f (NM b) (c++[g]))) none) ((a d b e).bind fun h=>cond (XP c) (k (.c0 d e f (NM b) (c++[h]))) none)) (some c))
def LAl:ArS DAb (List (List Int))
 |0,_=>none
 |m+1,s=>FA3 ZW (LAl m) s
def ZV:NAe:=EA3 ZW (LAl AX)
def DBZ:Arb:=fy u3 ZV ARy ACS [BBZ] Tryz.func143 CBZ FA3 EA3 LAl
inductive EAb where
 |c0 (a b:(List Int)) (d:Int) (e:(List Int))
def EBZ:EAb->Asu
 |.c0 a b d e=>(tdo Tryz.f185 488,[vr 0 3 a,vr 1 3 b,vo 5 368,vi 21 d],[(368,.sl 3 e)])
def GA3 (b:AuJ) (f:Mc) (g:AsW) (h:Mc) (k:AsB EAb (List Int)):J8:=fun c e=>mk ((b c).bind fun a=>cond (!a) (FI []) ((b e).bind fun d=>cond (!d) (FI []) (k (.c0 c e 0 XQ))))
def HA3 (a:AuJ) (b:Mc) (c:AsW) (d:Mc) (k:AsB EAb (List Int)):AsB EAb (List Int)
 |.c0 f g e h=>mk (cond (e<128) ((b e).bind fun j=>(c 17 (Aq2 j)).bind fun l=>cond (Jc (2*e) f) (cond (AtI (Aq2 e) (NZ f)) (cond (Jc (2*e) g) (cond (AtI (Aq2 e) (NZ g)) ((d (Nj ((Jd f (2*e))*(Jd g (2*e))) ((dZ (Arc f (Aq2 e)) (Arc g (Aq2 e)))*l))).bind fun i=>cond (Jc (2*e) h) ((d (Nj ((Jd f (2*e))*(Arc g (Aq2 e))) ((Arc f (Aq2 e))*(Jd g (2*e))))).bind fun m=>cond (AtI (Aq2 e) (NZ (h.set (Ub (2*e)) i))) (k (.c0 f g (NM e) ((h.set (Ub (2*e)) i).set (IZ (Aq2 e)) m))) none) none) none) none) none) none) (FI h))
def gU:ArS EAb (List Int)
 |0,_=>none
 |m+1,s=>HA3 Ar2 bJ bK AsG (gU m) s
def sN:J8:=GA3 Ar2 bJ bK AsG (gU AX)
def FBZ:Arb:=fy u2 sN gG JL [JAl,IBD,JBD,PAa] Tryz.func185 EBZ HA3 GA3 gU
def IA3:AsW:=fun a b=>mk (some (D7 a b))
def MAl:AsW:=IA3
def GBZ:Arb:=BF u2 MAl rU E5 [] Tryz.func184 IA3
def LBD:AsW:=fun a b=>mk (some (ArU a b))
def JA3:AsW:=LBD
def HBZ:Arb:=BF u2 JA3 rU E5 [] Tryz.func273 LBD
inductive GAb where
 |c0 (a b:(List Int)) (d:Nat) (e f:Int) (g:(List Int))
def IBZ:GAb->Asu
 |.c0 a b d e f g=>(tdo Tryz.f183 488,[vr 0 3 a,vr 1 3 b,(2,[.one (.fn d)]),vo 7 496,vi 19 e,vi 20 f],[(496,.sl 3 g)])
def KA3 (b:AuJ) (g h:AsW) (i:Mc) (k:AsB GAb (List Int)):LAq:=fun c e f=>mk ((b c).bind fun a=>cond (!a) (FI []) ((b e).bind fun d=>cond (!d) (FI []) (k (.c0 c e f (NZ XQ) 0 XQ))))
def NAl (a:AuJ) (b c:AsW) (d:Mc) (k:AsB GAb (List Int)):AsB GAb (List Int)
 |.c0 g h f j e i=>mk (cond (ArF e j) (cond (AvD e g) (cond (AvD e h) (cond (Nat.beq f 184) ((b (Arc g e) (Arc h e)).bind fun l=>(d l).bind fun m=>cond (AvD e i) (k (.c0 g h f j (NM e) (i.set (IZ e) m))) none) (cond (Nat.beq f 273) ((c (Arc g e) (Arc h e)).bind fun n=>(d n).bind fun o=>cond (AvD e i) (k (.c0 g h f j (NM e) (i.set (IZ e) o))) none) (cond (Nat.beq f 290) none (cond (Nat.beq f 291) none none)))) none) none) (FI i))
def gW:ArS GAb (List Int)
 |0,_=>none
 |m+1,s=>NAl Ar2 MAl JA3 AsG (gW m) s
def OAl:LAq:=KA3 Ar2 MAl JA3 AsG (gW AX)
def JBZ:Arb:=fy u3 OAl Abe JL [JAl,GBZ,HBZ,PAa] Tryz.func183 IBZ NAl KA3 gW
def LA3 (b:LAq):J8:=fun c d=>mk ((b c d 184).bind fun a=>FI a)
def AtX:J8:=LA3 OAl
def MBD:Arb:=BF u2 AtX gG JL [JBZ] Tryz.func141 LA3
inductive HAb where
 |c0 (a:(List (List Int))) (b:(List (List Int))) (d e:Int) (f:(List Int))
def KBZ:HAb->Asu
 |.c0 a b d e f=>(tdo Tryz.f142 232,[vr 0 100 a,vr 1 100 b,vo 5 368,vi 9 d,vi 10 e],[(368,.sl 3 f)])
def MA3 (c d:J8) (k:AsB HAb (List Int)):SG:=fun a b=>mk (k (.c0 a b (a.length:Int) 0 XQ))
def PAl (a b:J8) (k:AsB HAb (List Int)):AsB HAb (List Int)
 |.c0 d e f c i=>mk (cond (ArF c f) (cond (AtW c d.length) (cond (AtW c e.length) ((a (d.getD (IZ c) []) (e.getD (IZ c) [])).bind fun g=>(b i g).bind fun h=>k (.c0 d e f (NM c) h)) none) none) (FI i))
def gX:ArS HAb (List Int)
 |0,_=>none
 |m+1,s=>PAl sN AtX (gX m) s
def Xe:SG:=MA3 sN AtX (gX AX)
def NBD:Arb:=fy u2 Xe ARi JL [FBZ,MBD] Tryz.func142 KBZ PAl MA3 gX
inductive IAb where
 |c0 (a:Int) (b:(List Int)) (d e:Int) (f:(List Int))
 |c1 (a g h:Int) (b:(List Int)) (d e:Int) (i j:Int) (f:(List Int))
def LBZ:IAb->Asu
 |.c0 a b d e f=>(tdo Tryz.f182 232,[vi 1 a,vo 5 368,vr 17 3 b,vi 18 d,vi 19 e],[(368,.sl 5 f)])
 |.c1 a g h b d e i j f=>(tdo Tryz.f182 59800,[vi 1 a,vo 5 368,vi 6 g,vi 7 h,vr 17 3 b,vi 18 d,vi 19 e,vi 24 i,vi 25 j],[(368,.sl 5 f)])
def NA3 (k:AsB IAb AA):qI:=fun a b=>mk (cond ((RAe (FN (Ns (FN ((FN ((NZ a)*b))+7))))) && (Ic ((Ub (Ns (FN ((FN ((NZ a)*b))+7))))*1))) (k (.c0 b a (NZ a) 0 (List.replicate (Ub (Ns (FN ((FN ((NZ a)*b))+7)))) La))) none)
def QAl (k:AsB IAb AA):AsB IAb AA
 |.c0 d b c a e=>mk (cond (ArF a c) (cond (AvD a b) (k (.c1 d a (Arc b a) b c a d 0 e)) none) (Ll e))
 |.c1 b c f g h i e a d=>mk (cond (ArF a e) (cond (Jc (Ns (D7 (FN (c*b)) a)) d) (cond (AuS a) (cond (AuS ((D7 (FN (c*b)) a).tmod 8)) (cond (Jc (Ns (D7 (FN (c*b)) a)) d) (k (.c1 b c f g h i e (NM a) (d.set (Ub (Ns (D7 (FN (c*b)) a))) (w8 (Y4 O5 (Jd d (Ns (D7 (FN (c*b)) a))) (w8 ((w8 (FN (VQ Auc (OM f (Q8 a)))))*(MN (IZ ((D7 (FN (c*b)) a).tmod 8)) O5)))))))) none) none) none) none) (k (.c0 b g h (NM i) d)))
def Xf:ArS IAb AA
 |0,_=>none
 |m+1,s=>QAl (Xf m) s
def sS:qI:=NA3 (Xf AX)
def OBD:Arb:=fy u2 sS rV CS [] Tryz.func182 LBZ QAl NA3 Xf
def OA3 (c:AuJ) (d:qI):Ate:=fun b=>mk ((c b).bind fun a=>cond (!a) Wx (Lh (d b 12)))
def Zb:Ate:=OA3 Ar2 sS
def MBZ:Arb:=BF u1 Zb VZ CS [JAl,OBD] Tryz.func140 OA3
inductive KAb where
 |c0 (a b:AA) (d e:AA) (f:Int) (g:KG) (h:(List (List Int))) (i:(List (List Int)))
def NBZ:KAb->Asu
 |.c0 b d e f g a h i=>(tdo Tryz.f84 4072,[vp 2 128,vs 4 b,vs 5 d,vo 7 496,vo 8 560,vs 9 e,vs 10 f,vi 30 g],[(128,.var [.str a.ZM,.str a.ZN]),(496,.sl 100 h),(560,.sl 100 i)])
def PA3 (b:As8) (g:LAe) (i:MAe) (m:NAe) (n:SG) (o:J8) (p:Ate) (k:AsB KAb (KG×Bool)):Yv:=fun d=>mk (cond ((Aq5 d) != 32) (some (⟨IK,IK⟩,false)) ((b d).bind fun a=>cond (AsU a (Arl ⟨#[114]⟩)) ((b (a++(Arl ⟨#[114]⟩))).bind fun e=>cond (AsU a (Arl ⟨#[115]⟩)) ((b (a++(Arl ⟨#[115]⟩))).bind fun c=>(g c 0).bind fun f=>(i f).bind fun h=>(g c 2).bind fun j=>(i j).bind fun l=>k (.c0 a e IK IK 0 ⟨IK,IK⟩ h l)) none) none))
def sV (a:As8) (b:LAe) (c:MAe) (d:NAe) (e:SG) (f:J8) (g:Ate) (k:AsB KAb (KG×Bool)):AsB KAb (KG×Bool)
 |.c0 r h i l j w m o=>mk (cond (UA j) ((d h j false).bind fun t=>(e t m).bind fun u=>cond (AtW j o.length) ((f u (o.getD (IZ j) [])).bind fun v=>(g v).bind fun p=>cond (AsU i p) (cond (AtW j m.length) ((g (m.getD (IZ j) [])).bind fun q=>cond (AsU l q) (k (.c0 r h (i++p) (l++q) (NM j) w m o)) none) none) none) none) (cond (AsU i h) (cond (AsU l (i++h)) ((a (i++h)).bind fun n=>cond (Hr l (i++h) n) (cond (AsU r (Arl ⟨#[122]⟩)) ((a (r++(Arl ⟨#[122]⟩))).bind fun s=>cond (Hr (l++(i++h)) n s) (some (⟨i++h,((l++(i++h))++n)++s⟩,true)) none) none) none) none) none))
def gZ:ArS KAb (KG×Bool)
 |0,_=>none
 |m+1,s=>sV KZ Zc Zd ZV Xe AtX Zb (gZ m) s
def sU:Yv:=PA3 KZ Zc Zd ZV Xe AtX Zb (gZ AX)
def PBD:Arb:=fy u1 sU CS ARj [VW,SBY,ZBY,DBZ,NBD,MBD,MBZ] Tryz.func84 NBZ sV PA3 gZ
def QA3:qG:=fun _=>none
def OBZ:Arb:=fs u1 QA3 CS ARk 232
def RA3:MAq:=fun _ _ _=>none
def PBZ:Arb:=fs u3 RA3 rW AIK 233
def SA3:dX:=fun _ _=>none
def QBZ:Arb:=fs u2 SA3 rV JL 234
def TA3:Ud:=fun _=>none
def RBZ:Arb:=fs u1 TA3 VZ JL 236
def UA3:J8:=fun _ _=>none
def SBZ:Arb:=fs u2 UA3 gG JL 235
inductive NAb where
 |c0 (a:AA) (b:Int) (d:(List (List Int))) (e:(List (List Int)))
def TBZ:NAb->Asu
 |.c0 a b d e=>(tdo Tryz.f187 2024,[vs 1 a,vo 6 432,vo 8 560,vi 29 b],[(432,.sl 100 d),(560,.sl 100 e)])
def VA3 (d:qG) (e:MAq) (f:dX) (g:Ud) (h:SG) (i:Ud) (j:J8) (k:AsB NAb (List Int×Bool)):qH:=fun b c=>mk (cond ((Aq5 b) != 1632) (some ([],false)) (cond ((Aq5 c) != 768) (some ([],false)) ((d b).bind fun a=>cond (!a.2) (some ([],false)) (k (.c0 c 0 a.1 [])))))
def QBD (a:qG) (b:MAq) (c:dX) (d:Ud) (e:SG) (f:Ud) (g:J8) (k:AsB NAb (List Int×Bool)):AsB NAb (List Int×Bool)
 |.c0 i h o j=>mk (cond (UA h) (cond (AuB (FN (h*320)) (FN ((NM h)*320)) (Aq5 i)) ((b (i.extract (Ub (h*320)) (Ub ((NM h)*320))) 10 256).bind fun l=>(c l.1 10).bind fun m=>(d m).bind fun n=>cond (XP j) (k (.c0 i (NM h) o (j++[n]))) none) none) (cond ((GN La (640:Int)) && (decide (640<=(Aq5 i)))) ((b (O7 i (640:Int)) 4 256).bind fun p=>(c p.1 4).bind fun q=>(e o j).bind fun r=>(f r).bind fun s=>(g q s).bind fun t=>some (t,true)) none))
def WA3:ArS NAb (List Int×Bool)
 |0,_=>none
 |m+1,s=>QBD QA3 RA3 SA3 bM Xe TA3 UA3 (WA3 m) s
def XA3:qH:=VA3 QA3 RA3 SA3 bM Xe TA3 UA3 (WA3 AX)
def UBZ:Arb:=fy u2 XA3 KH AIK [OBZ,PBZ,QBZ,KBD,NBD,RBZ,SBZ] Tryz.func187 TBZ QBD VA3 WA3
def RBD:dX:=fun _ _=>none
def VBZ:Arb:=fs u2 RBD rV JL 188
def YA3 (d:qH) (g:dX) (h:qI):Au0:=fun e f=>mk ((d e f).bind fun a=>cond (!a.2) (LZ (IK,false)) ((g a.1 1).bind fun b=>(h b 1).bind fun c=>LZ (c,true)))
def ZA3:Au0:=YA3 XA3 RBD sS
def WBZ:Arb:=BF u2 ZA3 KH Hw [UBZ,VBZ,OBD] Tryz.func144 YA3
def SBD:BAe:=fun _ _=>none
def XBZ:Arb:=fs u2 SBD KH ARl 145
def AIp (h:Au0) (i:BAe) (f:As8):Au0:=fun a b=>mk ((h a b).bind fun d=>cond (!d.2) (LZ (IK,false)) (Nc (XAq a) ((i (a.extract (IZ (768:Int)) (IZ (1568:Int))) d.1).bind fun c=>cond c.2.2 (cond (EZ c.1 b) (LZ (c.2.1,true)) (Nc ((GN La (1600:Int)) && (decide (1600<=(Aq5 a)))) (Nc (AsU (O7 a (1600:Int)) b) ((f ((O7 a (1600:Int))++b)).bind fun e=>LZ (e,true))))) (Nc ((GN La (1600:Int)) && (decide (1600<=(Aq5 a)))) (Nc (AsU (O7 a (1600:Int)) b) ((f ((O7 a (1600:Int))++b)).bind fun g=>LZ (g,true)))))))
def gq:Au0:=AIp ZA3 SBD KZ
def YBZ:Arb:=BF u2 gq KH Hw [WBZ,XBZ,VW] Tryz.func85 AIp
def BA4 (e:OL):qJ:=fun a c b=>mk ((e a).bind fun d=>cond (!d) (some (⟨0,0,false,false,false,false,IK,0⟩,false)) (cond (Tf a) (cond (!c) (some (⟨0,0,false,false,false,false,IK,0⟩,false)) (cond (Arh a) (cond (!b) (some (⟨0,0,false,false,false,false,IK,0⟩,false)) (some (XK a c b,true))) (some (XK a c b,true)))) (cond (Arh a) (cond (!b) (some (⟨0,0,false,false,false,false,IK,0⟩,false)) (some (XK a c b,true))) (some (XK a c b,true)))))
def RAl:qJ:=BA4 Aui
def ZBZ:Arb:=BF u3 RAl ARm Xa [KAY] Tryz.func86 BA4
def CA4 (b:As8):As8:=fun a=>mk (FH (AsU a O8) (Lh (b (a++O8))))
def SAl:As8:=CA4 lV
def An4:Arb:=BF u1 SAl CS CS [YBC] Tryz.func146 CA4
def DA4 (d:OL) (e:Yv) (f:As8):qK:=fun a=>mk ((d a).bind fun b=>cond (!b) Wx (cond (a.Aa == 1) ((e (AtN a)).bind fun c=>some c.1.ZM) (cond (a.Aa == 2) (Lh (f (AtN a))) Wx)))
def TAl:qK:=DA4 Aui sU SAl
def BBa:Arb:=BF u1 TAl RP CS [KAY,PBD,An4] Tryz.func87 DA4
def EA4 (d:pX) (r:SE) (s:AvL) (t:VL) (u:Au0) (v:Yv) (w:Au0) (c:dW) (x:qJ) (y:qK):SE:=fun i a b=>mk (cond (a.Au == 6) ((d b 1).bind fun g=>cond g (some ([],0,AtN b)) (AsJ (c 8))) (cond (a.Au == 5) ((d b 3).bind fun h=>cond h (AsJ (r i a b)) (AsJ (c 8))) (cond (a.Au == 10) ((d b 2).bind fun j=>cond j ((s b).bind fun l=>(t i).bind fun m=>(u m l.1).bind fun n=>some ([],0,n.1)) (AsJ (c 8))) (cond (a.Au == 12) ((d b 4).bind fun o=>cond o ((v (AtN b)).bind fun p=>(w p.1.ZN a.fText).bind fun e=>cond (!e.2) (AsJ (c 6)) (some ([],0,e.1))) (AsJ (c 8))) (cond (a.Au == 8) ((x b a.CY a.CZ).bind fun f=>cond f.2 (some ([⟨3,IK,0,f.1⟩],0,IK)) (AsJ (c 8))) (cond (a.Au == 7) ((y b).bind fun q=>some ([],0,q)) (cond (a.Au == 9) (some ([⟨4,IK,b.fId,⟨0,0,false,false,false,false,IK,0⟩⟩],0,IK)) (AsJ (c 8)))))))))
def UAl:SE:=EA4 HAk AFU oz xH BAl sU gq YH RAl TAl
def CBa:Arb:=BF u3 UAl ACc Nw [RBW,TBX,MAz,QBC,UBX,PBD,YBZ,ABQ,ZBZ,BBa] Tryz.func30 EA4
def VAl (j:Na) (l:Y0) (c:dW) (m:QZ) (n:Wh) (o:J7) (p:As8) (q r:J7) (s:At1) (t:SE):J7:=fun b a=>mk ((j b).bind fun f=>cond (!f) (AsJ (c 9)) (cond (!b.Bj) (AsJ (c 9)) ((l a).bind fun g=>cond (!g) (AsJ (c 9)) (cond ((Tc b)>=10000) (AsJ (c 9)) (cond (a.Au == 1) (cond ((He b:Int)>=3) (AsJ (c 1)) (cond ((Asn b)>=1000) (AsJ (c 1)) ((m (NM (Asn b))).bind fun h=>some ([],0,h)))) ((n b (Atp a)).bind fun d=>cond (JK d) (AsJ (c 2)) (cond (a.Au == 13) (some ([],0,IK)) (cond (a.Au == 2) (AsJ (o b a)) (cond (AtW d (He b)) (cond (!(KT (Eb b) d ⟨0,false⟩).RS) (AsJ (c 5)) (cond (a.Au == 3) (cond ((Aq5 a.fText) > 20) (AsJ (c 6)) ((p a.fText).bind fun i=>some ([⟨1,i,0,⟨0,0,false,false,false,false,IK,0⟩⟩],0,IK))) (cond (a.Au == 4) (AsJ (q b a)) (cond (a.Au == 11) (AsJ (r b a)) ((s (As9 b) a.BK).bind fun e=>cond (!e.2) (AsJ (c 7)) (AsJ (t b a e.1))))))) none)))))))))
def Xh:J7:=VAl Ase AEk YH Xj lK CAk KZ EAk GAk TL UAl
def DBa:Arb:=BF u2 Xh ZR Nw [DA0,CBW,ABQ,GA0,OBC,LBW,VW,NBW,QBW,YAj,CBa] Tryz.func6 VAl
def FA4 (f:Arm) (h:As1) (i:Wl) (l:Aur):Aro:=fun j e g=>mk ((f g).bind fun a=>cond (!a.2) (some ([],false)) ((h e 0 10000).bind fun d=>cond (!d) (some ([],false)) ((i j (NM e) a.1).bind fun b=>(l b.1).bind fun c=>cond (!b.2) (some ([],false)) (cond (!c.2) (some ([],false)) (some ([⟨1,AuW,c.1,IK⟩,⟨2,AuW,IK,IK⟩],true))))))
def wz:Aro:=FA4 o7 Je wu lD
def EBa:Arb:=BF u3 wz ASA ASB [OAz,Qk,ZBC,CBC] Tryz.func8 FA4
def GA4:dN:=fun a=>mk (cond (Ic ((Lj a)*40)) (some a) none)
def YN:dN:=GA4
def WAl:Arb:=BF u1 YN AIQ gJ [] Tryz.func57 GA4
def HA4 (d:dN) (e:AuQ):MG:=fun a=>mk ((d a.Bd).bind fun b=>(e (As9 a)).bind fun c=>Ig (AvJ (He a)) (Ig (AvJ (Tn a)) (some ⟨a.BN,a.Bj,b,c,Eb a,Md a,Asn a⟩)))
def l9:MG:=HA4 YN dK
def FBa:Arb:=BF u1 l9 QN UF [WAl,SAz] Tryz.func41 HA4
inductive PAb where
 |c0 (a b d:Int) (e:AA) (f:Bool) (g:AA) (h i:Int) (j:AA) (l n:Int) (o:(List BQ)) (p:(List Ah)) (q:(List EC)) (t:(List Cc))
def GBa:PAb->Asu
 |.c0 a b d e f g h i j l n o p q t=>(tdo Tryz.f42 224,[vp 0 0,vi 1 a,vi 2 b,vi 7 d],[(0,.var [.str e,.bool f,.own 1000002,.str g,li h,.own 1000005,li i,.str j,li l,.own 1000009,.own 1000010,li n]),(1000002,.sl 140 o),(1000005,.sl 46 p),(1000009,.sl 67 q),(1000010,.sl 73 t)])
def IA4 (e:Wh) (k:AsB PAb Aj):OAe:=fun a c d=>mk ((e a c).bind fun b=>cond (Aue b) (Ig (AtW b (Tn a)) (some ⟨a.BN,a.Bj,a.Bd,As9 a,Eb a,(Md a).set (IZ b) (⟨(Ary (Md a) b).fId,d⟩:Cc),Asn a⟩)) (k (.c0 c d 0 a.BN a.Bj (As9 a).Bv (OI a) (Qx a) (Jb (As9 a)) (Tc a) (Asn a) (AtO a) (At3 (As9 a)) (Eb a) (Md a))))
def XAl (a:Wh) (k:AsB PAb Aj):AsB PAb Aj
 |.c0 d e b f g h i j l m n o p q c=>mk (cond (Gv b c.length) (cond (AtW b c.length) (cond (ArF (Ary c b).fId d) (k (.c0 d e (NM b) f g h i j l m n o p q c)) (Ig (Jf b (c.length:Int)) (Ig (AvJ (XO c b).length) (Ig (AvJ ((XO c b).length+1)) (Ig (Jf b (c.length:Int)) (Ig (AvJ (((XO c b)++[(⟨d,e⟩:Cc)]).length+(dM c (IZ b) b).length)) (some ⟨f,g,⟨o⟩,⟨h,i,p,j,l,m⟩,q,((XO c b)++[(⟨d,e⟩:Cc)])++(dM c (IZ b) b),n⟩))))))) none) (Ig (Jf b (c.length:Int)) (Ig (AvJ (XO c b).length) (Ig (AvJ ((XO c b).length+1)) (Ig (Jf b (c.length:Int)) (Ig (AvJ (((XO c b)++[(⟨d,e⟩:Cc)]).length+(dM c (IZ b) b).length)) (some ⟨f,g,⟨o⟩,⟨h,i,p,j,l,m⟩,q,((XO c b)++[(⟨d,e⟩:Cc)])++(dM c (IZ b) b),n⟩)))))))
def mF:ArS PAb Aj
 |0,_=>none
 |m+1,s=>XAl YM (mF m) s
def mD:OAe:=IA4 YM (mF AX)
def HBa:Arb:=fy u3 mD Abf UF [TA0] Tryz.func42 GBa XAl IA4 mF [0]
inductive yX where
 |c0 (ag:Int) (Asz:Bool) (a:Aj) (b:CJ) (d:AA) (e:Bool) (f:AA) (g h:Int) (i:AA) (j l:Int) (n:AA) (o:Bool) (p:AA) (q t:Int) (u:AA) (v w:Int) (ai:Ah) (x:(List BQ)) (y:(List Ah)) (aa:(List EC)) (ab:(List Cc)) (ac:(List BQ)) (ad:(List Ah)) (ae:(List EC)) (af:(List Cc))
 |c1 (a:Aj) (b:CJ) (d:AA) (e:Bool) (f:AA) (g h:Int) (i:AA) (j l:Int) (n:AA) (o:Bool) (p:AA) (q t:Int) (u:AA) (v w:Int) (x:(List BQ)) (y:(List Ah)) (aa:(List EC)) (ab:(List Cc)) (ac:(List BQ)) (ad:(List Ah)) (ae:(List EC)) (af:(List Cc))
def IBa:yX->Asu
 |.c0 Asz ai a b e f g h i j l n o p q t u v w x d y aa ab ac ad ae af ag=>(tdo Tryz.f11 32382,[vi 3 Asz,vp 4 256,vp 5 320,vp 8 512,vp 9 576,vp 11 704,vb 12 ai],[(256,.var [.str a.BN,.bool a.Bj,.BH 140 a.Bd.Ai,.str a.AV.Bv,li a.AV.DR,.BH 46 a.AV.Ag,li a.AV.BR,.str a.AV.Dp,li a.AV.fCount,.BH 67 a.BI,.BH 73 a.BJ,li a.CU]),(320,.var [li b.Au,li b.Dz,li b.BK,li b.Aa,.str b.fText,.bool b.CY,.bool b.CZ]),(512,.var [.str e,.bool f,.own 1032770,.str g,li h,.own 1032773,li i,.str j,li l,.own 1032777,.own 1032778,li n]),(576,.var [.str o,.bool p,.own 1036866,.str q,li t,.own 1036869,li u,.str v,li w,.own 1036873,.own 1036874,li x]),(704,.var [li d.fId,li d.Aa,.bool d.CY,.bool d.CZ,.bool d.GI,.bool d.Fb,.str d.fValue,li d.fNext]),(1032770,.sl 140 y),(1032773,.sl 46 aa),(1032777,.sl 67 ab),(1032778,.sl 73 ac),(1036866,.sl 140 ad),(1036869,.sl 46 ae),(1036873,.sl 67 af),(1036874,.sl 73 ag)])
 |.c1 a b e f g h i j l n o p q t u v w x y aa ab ac ad ae af ag=>(tdo Tryz.f11 129534,[vp 4 256,vp 5 320,vp 8 512,vp 9 576],[(256,.var [.str a.BN,.bool a.Bj,.BH 140 a.Bd.Ai,.str a.AV.Bv,li a.AV.DR,.BH 46 a.AV.Ag,li a.AV.BR,.str a.AV.Dp,li a.AV.fCount,.BH 67 a.BI,.BH 73 a.BJ,li a.CU]),(320,.var [li b.Au,li b.Dz,li b.BK,li b.Aa,.str b.fText,.bool b.CY,.bool b.CZ]),(512,.var [.str e,.bool f,.own 1032770,.str g,li h,.own 1032773,li i,.str j,li l,.own 1032777,.own 1032778,li n]),(576,.var [.str o,.bool p,.own 1036866,.str q,li t,.own 1036869,li u,.str v,li w,.own 1036873,.own 1036874,li x]),(1032770,.sl 140 y),(1032773,.sl 46 aa),(1032777,.sl 67 ab),(1032778,.sl 73 ac),(1036866,.sl 140 ad),(1036869,.sl 46 ae),(1036873,.sl 67 af),(1036874,.sl 73 ag)])
end
end Go.Proofs.YtaalgheapdmjnaaGreatDoor.G
