/- Functions of the program, told by plain functions: part 2 of 2. -/
import Derived.Test.YtaalgheapdmjnaaGreatDoorFFnCarriesa
namespace Go.Proofs.YtaalgheapdmjnaaGreatDoor.G
open Go Go.Ev
noncomputable section
set_option linter.unusedVariables false
set_option maxRecDepth 100000
set_option maxHeartbeats 4000000
set_option linter.unusedSectionVars false
variable [PC]
def bC (g:MG) (i:Wh) (j:At1) (l:OAe) (m:Wh) (k:AsB yX Aj):Yd:=fun e c h f=>mk ((g e).bind fun a=>cond (h != 0) (some a) ((i e (Atp c)).bind fun b=>(j (As9 e) c.BK).bind fun d=>cond (c.Au == 1) (Ig (AvJ ((He a)+1)) (some ⟨a.BN,a.Bj,a.Bd,As9 a,(Eb a)++[(⟨NM (Asn a),false⟩:EC)],Md a,NM (Asn a)⟩)) (cond (c.Au == 13) (cond (Aue b) (Ig (Jf b (He a:Int)) (Ig (Jf (NM b) (He a:Int)) (Ig (0<(He a)&&(((IZ b) - 0)+(((Eb a).drop (AuX b)).take ((He a) - (AuX b))).length)<=(He a)) (some ⟨a.BN,a.Bj,a.Bd,As9 a,((Eb a).take ((IZ b) - 0))++(((Eb a).drop (AuX b)).take ((He a) - (AuX b))),Md a,Asn a⟩)))) (cond (c.Au == 2) (cond (Aue b) (Ig (AtW b (He a)) (some ⟨a.BN,a.Bj,a.Bd,As9 a,(Eb a).set (IZ b) (⟨(KT (Eb a) b ⟨0,false⟩).fId,true⟩:EC),Md a,Asn a⟩)) (k (.c0 f d.2 e c IK false IK 0 0 IK 0 0 a.BN a.Bj (As9 a).Bv (OI a) (Qx a) (Jb (As9 a)) (Tc a) (Asn a) d.1 [] [] [] [] (AtO a) (At3 (As9 a)) (Eb a) (Md a)))) (k (.c0 f d.2 e c IK false IK 0 0 IK 0 0 a.BN a.Bj (As9 a).Bv (OI a) (Qx a) (Jb (As9 a)) (Tc a) (Asn a) d.1 [] [] [] [] (AtO a) (At3 (As9 a)) (Eb a) (Md a))))) (cond (c.Au == 2) (cond (Aue b) (Ig (AtW b (He a)) (some ⟨a.BN,a.Bj,a.Bd,As9 a,(Eb a).set (IZ b) (⟨(KT (Eb a) b ⟨0,false⟩).fId,true⟩:EC),Md a,Asn a⟩)) (k (.c0 f d.2 e c IK false IK 0 0 IK 0 0 a.BN a.Bj (As9 a).Bv (OI a) (Qx a) (Jb (As9 a)) (Tc a) (Asn a) d.1 [] [] [] [] (AtO a) (At3 (As9 a)) (Eb a) (Md a)))) (k (.c0 f d.2 e c IK false IK 0 0 IK 0 0 a.BN a.Bj (As9 a).Bv (OI a) (Qx a) (Jb (As9 a)) (Tc a) (Asn a) d.1 [] [] [] [] (AtO a) (At3 (As9 a)) (Eb a) (Md a)))))))
def YAl (a:MG) (b:Wh) (c:At1) (d:OAe) (e:Wh) (k:AsB yX Aj):AsB yX Aj
 |.c0 H J t f u v w x y z A B g h j l n o p s G C D E F i m q r=>mk (cond (f.Au == 5) (cond J (cond (G.Aa == 2) (cond (Aue H) (cond (ArF H G.fNext) ((d ⟨g,h,⟨i⟩,⟨j,l,m,n,o,p⟩,q,r,s⟩ G.fId (NM H)).bind fun I=>some I) (k (.c1 t f u v w x y z A B g h j l n o p s C D E F i m q r))) (k (.c1 t f u v w x y z A B g h j l n o p s C D E F i m q r))) (k (.c1 t f u v w x y z A B g h j l n o p s C D E F i m q r))) (k (.c1 t f u v w x y z A B g h j l n o p s C D E F i m q r))) (k (.c1 t f u v w x y z A B g h j l n o p s C D E F i m q r)))
 |.c1 u t _ _ _ _ _ _ _ _ h i l m o p q s _ _ _ _ j n r g=>mk (cond (t.Au == 9) ((e u t.BK).bind fun f=>cond (Aue f) (Ig (Jf f (g.length:Int)) (Ig (Jf (NM f) (g.length:Int)) (Ig (0<g.length&&(((IZ f) - 0)+(dM g (AuX f) (NM f)).length)<=g.length) (some ⟨h,i,⟨j⟩,⟨l,m,n,o,p,q⟩,r,(g.take ((IZ f) - 0))++(dM g (AuX f) (NM f)),s⟩)))) (some ⟨h,i,⟨j⟩,⟨l,m,n,o,p,q⟩,r,g,s⟩)) (some ⟨h,i,⟨j⟩,⟨l,m,n,o,p,q⟩,r,g,s⟩))
def bG:ArS yX Aj
 |0,_=>none
 |m+1,s=>YAl l9 lK TL mD YM (bG m) s
def LP:Yd:=bC l9 lK TL mD YM (bG AX)
def JBa:Arb:=fy u4 LP ARq UF [FBa,OBC,YAj,HBa,TA0] Tryz.func11 IBa YAl bC bG
def JA4 (d:dN) (e:P8):MG:=fun b=>(d b.Bd).bind fun a=>e.bind fun c=>some ⟨b.BN,false,a,c,[],[],0⟩
def kL:MG:=JA4 YN aW
def KBa:Arb:=BF u1 kL QN UF [WAl,RAy] Tryz.func15 JA4
def KA4 (c:Td):Ye:=fun b d=>mk ((c b d).bind fun a=>cond (Aue a) (cond (Jf a (Lj b:Int)) (cond (Ic ((Yf b.Ai a).length*40)) (cond (Jf (NM a) (Lj b:Int)) (cond (Ic (((Yf b.Ai a).length+((b.Ai.drop (AuX a)).take ((Lj b) - (AuX a))).length)*40)) (some ⟨(Yf b.Ai a)++((b.Ai.drop (AuX a)).take ((Lj b) - (AuX a)))⟩) none) none) none) none) (some b))
def mG:Ye:=KA4 aX
def UBD:Arb:=BF u2 mG Abg gJ [BAj] Tryz.func162 KA4 [0]
inductive yY where
 |c0 (a:Int) (b:BQ) (d:(List BQ))
def LBa:yY->Asu
 |.c0 b a d=>(tdo Tryz.f161 480,[vp 0 0,vp 3 192,vi 4 b],[(0,.var [.own 1000000]),(192,.var [.str a.fName,.str a.fText,li a.Jp]),(1000000,.sl 140 d)])
def LA4 (c:Ye) (k:AsB yY BO):pG:=fun d b=>(c d b.fName).bind fun a=>k (.c0 0 b a.Ai)
def ZAl (a:Ye) (k:AsB yY BO):AsB yY BO
 |.c0 b d c=>mk (cond (Gv b c.length) (cond (AtW b c.length) (cond (pI (c.getD (IZ b) ArQ) d) (k (.c0 (NM b) d c)) (PAq b c d)) none) (PAq b c d))
def mJ:ArS yY BO
 |0,_=>none
 |m+1,s=>ZAl mG (mJ m) s
def AFJ:pG:=LA4 mG (mJ AX)
def MBa:Arb:=fy u2 AFJ Abh gJ [UBD] Tryz.func161 LBa ZAl LA4 mJ [0]
def MA4 (a1:Td) (d:OJ) (l:dN) (e:pG) (f:Ye):Yg:=fun c a=>mk ((a1 c a.fName).bind fun b=>O3 (d c) (Ib (GZ,false)) (cond (a.Aa != 1) (cond (JK b) (Ib (GZ,false)) (cond (!(EZ a.fText IK)) (Ib (GZ,false)) (cond (a.Aa != 3) (cond (!(EZ a.Ij IK)) (Ib (GZ,false)) ((l c).bind fun g=>cond (Aue b) (cond (LD b c) (cond (Au4 a) (cond (AsU (ArB c b) a.fText) ((e g (W9 c b a)).bind fun m=>AuO d m (GZ,false) (m,true)) none) (cond (AsP a) ((e g (XA c b)).bind fun n=>AuO d n (GZ,false) (n,true)) (Po a.Aa ((LG c b) != (Jk c b)) (Ib (GZ,false)) (cond (Ar9 a) (Ib (GZ,false)) ((f g a.fName).bind fun T=>(e T (XB a c b)).bind fun o=>AuO d o (GZ,false) (o,true))) (Ar1 a) ((f g a.fName).bind fun p=>AuO d p (GZ,false) (p,true))))) none) (cond (Au4 a) (cond (XC a) ((e g (XD a)).bind fun q=>AuO d q (GZ,false) (q,true)) none) (cond (AsP a) ((e g (XE a)).bind fun r=>AuO d r (GZ,false) (r,true)) (Po a.Aa (Ar9 a) (Ib (GZ,false)) ((f g a.fName).bind fun U=>(e U (XF a)).bind fun s=>AuO d s (GZ,false) (s,true)) (Ar1 a) ((f g a.fName).bind fun t=>AuO d t (GZ,false) (t,true))))))) ((l c).bind fun h=>cond (Aue b) (cond (LD b c) (cond (Au4 a) (cond (AsU (ArB c b) a.fText) ((e h (W9 c b a)).bind fun u=>AuO d u (GZ,false) (u,true)) none) (cond (AsP a) ((e h (XA c b)).bind fun v=>AuO d v (GZ,false) (v,true)) (Po a.Aa ((LG c b) != (Jk c b)) (Ib (GZ,false)) (cond (Ar9 a) (Ib (GZ,false)) ((f h a.fName).bind fun V=>(e V (XB a c b)).bind fun w=>AuO d w (GZ,false) (w,true))) (Ar1 a) ((f h a.fName).bind fun x=>AuO d x (GZ,false) (x,true))))) none) (cond (Au4 a) (cond (XC a) ((e h (XD a)).bind fun y=>AuO d y (GZ,false) (y,true)) none) (cond (AsP a) ((e h (XE a)).bind fun z=>AuO d z (GZ,false) (z,true)) (Po a.Aa (Ar9 a) (Ib (GZ,false)) ((f h a.fName).bind fun W=>(e W (XF a)).bind fun A=>AuO d A (GZ,false) (A,true)) (Ar1 a) ((f h a.fName).bind fun B=>AuO d B (GZ,false) (B,true))))))))) (cond (a.Aa != 3) (cond (!(EZ a.Ij IK)) (Ib (GZ,false)) ((l c).bind fun i=>cond (Aue b) (cond (LD b c) (cond (Au4 a) (cond (AsU (ArB c b) a.fText) ((e i (W9 c b a)).bind fun C=>AuO d C (GZ,false) (C,true)) none) (cond (AsP a) ((e i (XA c b)).bind fun D=>AuO d D (GZ,false) (D,true)) (Po a.Aa ((LG c b) != (Jk c b)) (Ib (GZ,false)) (cond (Ar9 a) (Ib (GZ,false)) ((f i a.fName).bind fun X=>(e X (XB a c b)).bind fun E=>AuO d E (GZ,false) (E,true))) (Ar1 a) ((f i a.fName).bind fun F=>AuO d F (GZ,false) (F,true))))) none) (cond (Au4 a) (cond (XC a) ((e i (XD a)).bind fun G=>AuO d G (GZ,false) (G,true)) none) (cond (AsP a) ((e i (XE a)).bind fun H=>AuO d H (GZ,false) (H,true)) (Po a.Aa (Ar9 a) (Ib (GZ,false)) ((f i a.fName).bind fun Y=>(e Y (XF a)).bind fun I=>AuO d I (GZ,false) (I,true)) (Ar1 a) ((f i a.fName).bind fun J=>AuO d J (GZ,false) (J,true))))))) ((l c).bind fun j=>cond (Aue b) (cond (LD b c) (cond (Au4 a) (cond (AsU (ArB c b) a.fText) ((e j (W9 c b a)).bind fun L=>AuO d L (GZ,false) (L,true)) none) (cond (AsP a) ((e j (XA c b)).bind fun M=>AuO d M (GZ,false) (M,true)) (Po a.Aa ((LG c b) != (Jk c b)) (Ib (GZ,false)) (cond (Ar9 a) (Ib (GZ,false)) ((f j a.fName).bind fun Z=>(e Z (XB a c b)).bind fun N=>AuO d N (GZ,false) (N,true))) (Ar1 a) ((f j a.fName).bind fun O=>AuO d O (GZ,false) (O,true))))) none) (cond (Au4 a) (cond (XC a) ((e j (XD a)).bind fun P=>AuO d P (GZ,false) (P,true)) none) (cond (AsP a) ((e j (XE a)).bind fun Q=>AuO d Q (GZ,false) (Q,true)) (Po a.Aa (Ar9 a) (Ib (GZ,false)) ((f j a.fName).bind fun a0=>(e a0 (XF a)).bind fun R=>AuO d R (GZ,false) (R,true)) (Ar1 a) ((f j a.fName).bind fun S=>AuO d S (GZ,false) (S,true)))))))))
def wo:Yg:=MA4 aX aV YN AFJ mG
def NBa:Arb:=BF u2 wo ASC ACa [BAj,CAy,WAl,MBa,UBD] Tryz.func113 MA4
inductive yZ where
 |c0 (a b:(List ET)) (d e:Int) (f g:(List BQ))
def OBa:yZ->Asu
 |.c0 a b d e f g=>(tdo Tryz.f58 232,[vr 1 80 a,vp 4 256,vp 6 384,vr 13 80 b,vi 14 d,vi 15 e],[(256,.var [.own 1016384]),(384,.var [.own 1024576]),(1016384,.sl 140 f),(1024576,.sl 140 g)])
def NA4 (c:dN) (e:Yg) (k:AsB yZ (BO×Int)):AvN:=fun d a=>(c d).bind fun b=>k (.c0 a a (a.length:Int) 0 [] b.Ai)
def BAm (a:dN) (b:Yg) (k:AsB yZ (BO×Int)):AsB yZ (BO×Int)
 |.c0 h d g c i f=>mk (cond (ArF c g) (cond (AtW c d.length) ((b ⟨f⟩ (d.getD (IZ c) (⟨0,IK,IK,IK⟩:ET))).bind fun e=>cond (!e.2) (some (⟨f⟩,c)) (k (.c0 h d g (NM c) i e.1.Ai))) none) (some (⟨f⟩,(h.length:Int))))
def mQ:ArS yZ (BO×Int)
 |0,_=>none
 |m+1,s=>BAm YN wo (mQ m) s
def CAm:AvN:=NA4 YN wo (mQ AX)
def PBa:Arb:=fy u2 CAm ASD ASE [WAl,NBa] Tryz.func58 OBa BAm NA4 mQ
def OA4 (e:Na) (f:Aul) (g:AvN):dP:=fun a=>mk (cond a.Bj (some (⟨IK,false,GZ,Auj,[],[],0⟩,false)) ((e a).bind fun d=>cond (!d) (some (⟨IK,false,GZ,Auj,[],[],0⟩,false)) ((f a.BN a.Bd).bind fun b=>(g a.Bd b.2.1).bind fun c=>cond (!b.2.2) (some (⟨IK,false,GZ,Auj,[],[],0⟩,false)) (cond (ArF c.2 (b.2.1.length:Int)) (some (⟨IK,false,GZ,Auj,[],[],0⟩,false)) (some (⟨a.BN,true,c.1,b.1,[],[],0⟩,true))))))
def X7:dP:=OA4 Ase lH CAm
def QBa:Arb:=BF u1 X7 QN AIR [DA0,GBC,PBa] Tryz.func16 OA4
inductive yc where
 |c0 (a:Int) (b d:Bf)
def RBa:yc->Asu
 |.c0 d a b=>(tdo Tryz.f17 464,[vp 2 128,vp 3 192,vi 5 d],[(128,.var [.str a.Bv,li a.DR,.BH 46 a.Ag,li a.BR,.str a.Dp,li a.fCount]),(192,.var [.str b.Bv,li b.DR,.BH 46 b.Ag,li b.BR,.str b.Dp,li b.fCount])])
def PA4 (k:AsB yc Bool):Rx:=fun a b=>mk (cond (!(EZ a.Bv b.Bv)) (some false) (cond ((Aud a) != (Aud b)) (some false) (cond (a.BR != b.BR) (some false) (cond (!(EZ (Jb a) (Jb b))) (some false) (cond (a.fCount != b.fCount) (some false) (cond ((KU a) != (KU b)) (some false) (k (.c0 0 a b))))))))
def DAm (k:AsB yc Bool):AsB yc Bool
 |.c0 a b c=>mk (cond (Gv a (Gt b)) (cond (Nb a b) (cond (Nb a c) (cond (!(((Ja (At3 b) a ⟨0,0,false,false,false,false,IK,0⟩).fId == (Ja (At3 c) a ⟨0,0,false,false,false,false,IK,0⟩).fId) && (((Ja (At3 b) a ⟨0,0,false,false,false,false,IK,0⟩).Aa == (Ja (At3 c) a ⟨0,0,false,false,false,false,IK,0⟩).Aa) && (((Tf (Ja (At3 b) a ⟨0,0,false,false,false,false,IK,0⟩)) == (Tf (Ja (At3 c) a ⟨0,0,false,false,false,false,IK,0⟩))) && (((Arh (Ja (At3 b) a ⟨0,0,false,false,false,false,IK,0⟩)) == (Arh (Ja (At3 c) a ⟨0,0,false,false,false,false,IK,0⟩))) && (((ArW (Ja (At3 b) a ⟨0,0,false,false,false,false,IK,0⟩)) == (ArW (Ja (At3 c) a ⟨0,0,false,false,false,false,IK,0⟩))) && (((As4 (Ja (At3 b) a ⟨0,0,false,false,false,false,IK,0⟩)) == (As4 (Ja (At3 c) a ⟨0,0,false,false,false,false,IK,0⟩))) && ((EZ (AtN (Ja (At3 b) a ⟨0,0,false,false,false,false,IK,0⟩)) (AtN (Ja (At3 c) a ⟨0,0,false,false,false,false,IK,0⟩))) && (((Ja (At3 b) a ⟨0,0,false,false,false,false,IK,0⟩).fNext == (Ja (At3 c) a ⟨0,0,false,false,false,false,IK,0⟩).fNext) && true))))))))) (some false) (k (.c0 (NM a) b c))) none) none) (some true))
def kK:ArS yc Bool
 |0,_=>none
 |m+1,s=>DAm (kK m) s
def aO:Rx:=PA4 (kK AX)
def SBa:Arb:=fy u2 aO AIL GK [] Tryz.func17 RBa DAm PA4 kK
inductive yg where
 |c0 (a b d:Int) (e:AA) (f:Bool) (g:AA) (h i:Int) (j:AA) (l n:Int) (o:CJ) (p:AA) (q:Bool) (t:AA) (u v:Int) (w:AA) (x y:Int) (aa:(List Aq)) (ab:(List BQ)) (ac:(List Ah)) (ad:(List EC)) (ae:(List Cc))
 |c1 (a b d:Int) (e:AA) (f:Bool) (g:AA) (h i:Int) (j:AA) (l n:Int) (o:CJ) (p:AA) (q:Bool) (t:AA) (u v:Int) (w:AA) (x y:Int) (aa:(List Aq)) (ab:(List BQ)) (ac:(List Ah)) (ad:(List EC)) (ae:(List Cc)) (af:(List BQ)) (ag:(List Ah))
def TBa:yg->Asu
 |.c0 b d e f g h i j l n o a p q t u v w x y aa ab ac ad ae=>(tdo Tryz.f3 8144,[vp 3 192,vp 4 256,vo 5 368,vi 6 b,vi 8 d,vp 9 576,vi 10 e],[(192,.var [.str f,.bool g,.own 1012290,.str h,li i,.own 1012293,li j,.str l,li n,.own 1012297,.own 1012298,li o]),(256,.var [li a.Au,li a.Dz,li a.BK,li a.Aa,.str a.fText,.bool a.CY,.bool a.CZ]),(576,.var [.str p,.bool q,.own 1012290,.str t,li u,.own 1012293,li v,.str w,li x,.own 1012297,.own 1012298,li y]),(368,.sl 48 aa),(1012290,.sl 140 ab),(1012293,.sl 46 ac),(1012297,.sl 67 ad),(1012298,.sl 73 ae)])
 |.c1 b d e f g h i j l n o a p q t u v w x y aa ab ac ad ae af ag=>(tdo Tryz.f3 8144,[vp 3 192,vp 4 256,vo 5 368,vi 6 b,vi 8 d,vp 9 576,vi 10 e],[(192,.var [.str f,.bool g,.own 1012290,.str h,li i,.own 1012293,li j,.str l,li n,.own 1012297,.own 1012298,li o]),(256,.var [li a.Au,li a.Dz,li a.BK,li a.Aa,.str a.fText,.bool a.CY,.bool a.CZ]),(576,.var [.str p,.bool q,.own 1036866,.str t,li u,.own 1036869,li v,.str w,li x,.own 1012297,.own 1012298,li y]),(368,.sl 48 aa),(1012290,.sl 140 ab),(1012293,.sl 46 ac),(1012297,.sl 67 ad),(1012298,.sl 73 ae),(1036866,.sl 140 af),(1036869,.sl 46 ag)])
def QA4 (e:pJ) (f:HAe) (g:J7) (h:Wh) (i:Aro) (j:AvN) (l:Asm) (m:Yd) (n o:Na) (p:Wh) (q:MG) (r:dP) (s:Rx) (k:AsB yg Bool):pJ:=fun t=>mk ((e ()).bind fun c=>cond c (some true) ((f ()).bind fun a=>(g a.1 a.2).bind fun b=>(h a.1 a.2.BK).bind fun d=>k (.c0 b.2.1 d 0 a.1.BN a.1.Bj (As9 a.1).Bv (OI a.1) (Qx a.1) (Jb (As9 a.1)) (Tc a.1) (Asn a.1) a.2 a.1.BN a.1.Bj (As9 a.1).Bv (OI a.1) (Qx a.1) (Jb (As9 a.1)) (Tc a.1) (Asn a.1) b.1 (AtO a.1) (At3 (As9 a.1)) (Eb a.1) (Md a.1))))
def vw (a:pJ) (b:HAe) (c:J7) (d:Wh) (e:Aro) (f:AvN) (g:Asm) (h:Yd) (i j:Na) (l:Wh) (m:MG) (n:dP) (o:Rx) (k:AsB yg Bool):AsB yg Bool
 |.c0 L z s M N O P Q R S T A x U G H I J y V t v w B C=>mk (cond (Gv s t.length) (cond (AtW s t.length) ((e x y (VJ t s IK ⟨0,0,false,false,false,false,IK,0⟩)).bind fun E=>(f ⟨v⟩ E.1).bind fun F=>cond (AtW s t.length) ((g ⟨G,H,w,I,J,y⟩ (VJ t s IK ⟨0,0,false,false,false,false,IK,0⟩)).bind fun r=>k (.c1 L z (NM s) M N O P Q R S T A x U r.1.Bv (Aud r.1) r.1.BR (Jb r.1) r.1.fCount V t v w B C F.1.Ai (At3 r.1))) none) none) ((h ⟨x,U,⟨v⟩,⟨G,H,w,I,J,y⟩,B,C,V⟩ A L z).bind fun q=>(i q).bind fun W=>JZ (!W) (some false) ((j q).bind fun X=>JZ (!X) (some false) ((l ⟨M,N,⟨v⟩,⟨O,P,w,Q,R,S⟩,B,C,T⟩ A.BK).bind fun Y=>JZ (z != Y) (some false) ((m q).bind fun u=>(n u).bind fun p=>(n p.1).bind fun D=>Au1 (i u) (JZ (!u.Bj) (JZ (QA u) (JZ q.Bj (JZ (p.2 == true) (JZ (!D.2) (JZ (!q.Bj) (JZ (QA p.1) (Oo (i p.1)) (some false)) (Au1 (o (As9 p.1) (As9 q)) (JZ (QA p.1) (Oo (i p.1)) (some false)) (some false))) (some false)) (some false)) (JZ (p.2 == (EZ u.BN q.BN)) (JZ (!D.2) (JZ (!q.Bj) (JZ (QA p.1) (Oo (i p.1)) (some false)) (Au1 (o (As9 p.1) (As9 q)) (JZ (QA p.1) (Oo (i p.1)) (some false)) (some false))) (some false)) (some false))) (some false)) (some false)) (some false))))))
 |.c1 L x s M N O P Q R S T y v U F G I J w V t W X z A E H=>mk (cond (Gv s t.length) (cond (AtW s t.length) ((e v w (VJ t s IK ⟨0,0,false,false,false,false,IK,0⟩)).bind fun C=>(f ⟨E⟩ C.1).bind fun D=>cond (AtW s t.length) ((g ⟨F,G,H,I,J,w⟩ (VJ t s IK ⟨0,0,false,false,false,false,IK,0⟩)).bind fun r=>k (.c1 L x (NM s) M N O P Q R S T y v U r.1.Bv (Aud r.1) r.1.BR (Jb r.1) r.1.fCount V t W X z A D.1.Ai (At3 r.1))) none) none) ((h ⟨v,U,⟨E⟩,⟨F,G,H,I,J,w⟩,z,A,V⟩ y L x).bind fun q=>(i q).bind fun Y=>JZ (!Y) (some false) ((j q).bind fun Z=>JZ (!Z) (some false) ((l ⟨M,N,⟨W⟩,⟨O,P,X,Q,R,S⟩,z,A,T⟩ y.BK).bind fun a0=>JZ (x != a0) (some false) ((m q).bind fun u=>(n u).bind fun p=>(n p.1).bind fun B=>Au1 (i u) (JZ (!u.Bj) (JZ (QA u) (JZ q.Bj (JZ (p.2 == true) (JZ (!B.2) (JZ (!q.Bj) (JZ (QA p.1) (Oo (i p.1)) (some false)) (Au1 (o (As9 p.1) (As9 q)) (JZ (QA p.1) (Oo (i p.1)) (some false)) (some false))) (some false)) (some false)) (JZ (p.2 == (EZ u.BN q.BN)) (JZ (!B.2) (JZ (!q.Bj) (JZ (QA p.1) (Oo (i p.1)) (some false)) (Au1 (o (As9 p.1) (As9 q)) (JZ (QA p.1) (Oo (i p.1)) (some false)) (some false))) (some false)) (some false))) (some false)) (some false)) (some false))))))
def aQ:ArS yg Bool
 |0,_=>none
 |m+1,s=>vw ZAe vk Xh aP wz WZ X8 LP Ase aF Ql kL X7 aO (aQ m) s
def ACO:pJ:=QA4 ZAe vk Xh aP wz WZ X8 LP Ase aF Ql kL X7 aO (aQ AX)
theorem AZw:QL ctx PP 3 sG GK (u1 ACO):=ty u1 ACO sG GK [RBN,HBU,DBa,TBC,EBa,DAg,FBC,JBa,DA0,LBB,IBB,KBa,QBa,SBa] Tryz.func3 TBa vw QA4 aQ
end
end Go.Proofs.YtaalgheapdmjnaaGreatDoor.G
