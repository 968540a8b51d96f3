/- Functions of the program, told by plain functions: part 2 of 2. -/
import Derived.Test.YtkbbicgglblfiaaGreatDoorFFnTopa
namespace Go.Proofs.YtkbbicgglblfiaaGreatDoor.G
open Go Go.Ev
noncomputable section
set_option linter.unusedVariables false
set_option maxRecDepth 100000
set_option maxHeartbeats 4000000
set_option linter.unusedSectionVars false
variable [PC]
def CBA (d:AyR) (e:Xx) (k:Aw7 CAf (BU×Bool)):tu:=fun c f=>mk ((d c).bind fun b=>cond (!b) (AyC (IZ,false)) ((e c).bind fun a=>k (.c0 f (Awa a:Int) 0 [] a.Ak)))
def DBA (a:AyR) (b:Xx) (k:Aw7 CAf (BU×Bool)):Aw7 CAf (BU×Bool)
 |.c0 e f c g d=>mk (cond (KZ c f) (cond (Fa c d.length) (cond (KZ c (Aw3 e)) (cond (Fb c e) (cond (0<=(ite ((Si d c) > (ite ((ite ((Eh d c)<(GZ e c)) (Eh d c) (GZ e c)) > 0) (ite ((Eh d c)<(GZ e c)) (Eh d c) (GZ e c)) 0)) (Si d c) (ite ((ite ((Eh d c)<(GZ e c)) (Eh d c) (GZ e c)) > 0) (ite ((Eh d c)<(GZ e c)) (Eh d c) (GZ e c)) 0))&&(ite ((Si d c) > (ite ((ite ((Eh d c)<(GZ e c)) (Eh d c) (GZ e c)) > 0) (ite ((Eh d c)<(GZ e c)) (Eh d c) (GZ e c)) 0)) (Si d c) (ite ((ite ((Eh d c)<(GZ e c)) (Eh d c) (GZ e c)) > 0) (ite ((Eh d c)<(GZ e c)) (Eh d c) (GZ e c)) 0))<=(Eh d c)) (k (.c0 e f (NM c) g ((d.set (Axd c) (WO (Qi d c) (Qi d c).fText (ite ((Si d c) > (ite ((ite ((Eh d c)<(GZ e c)) (Eh d c) (GZ e c)) > 0) (ite ((Eh d c)<(GZ e c)) (Eh d c) (GZ e c)) 0)) (Si d c) (ite ((ite ((Eh d c)<(GZ e c)) (Eh d c) (GZ e c)) > 0) (ite ((Eh d c)<(GZ e c)) (Eh d c) (GZ e c)) 0)).toNat)).set (Axd c) (⟨(Qi (d.set (Axd c) (WO (Qi d c) (Qi d c).fText (ite ((Si d c) > (ite ((ite ((Eh d c)<(GZ e c)) (Eh d c) (GZ e c)) > 0) (ite ((Eh d c)<(GZ e c)) (Eh d c) (GZ e c)) 0)) (Si d c) (ite ((ite ((Eh d c)<(GZ e c)) (Eh d c) (GZ e c)) > 0) (ite ((Eh d c)<(GZ e c)) (Eh d c) (GZ e c)) 0)).toNat)) c).fName,(Qi (d.set (Axd c) (WO (Qi d c) (Qi d c).fText (ite ((Si d c) > (ite ((ite ((Eh d c)<(GZ e c)) (Eh d c) (GZ e c)) > 0) (ite ((Eh d c)<(GZ e c)) (Eh d c) (GZ e c)) 0)) (Si d c) (ite ((ite ((Eh d c)<(GZ e c)) (Eh d c) (GZ e c)) > 0) (ite ((Eh d c)<(GZ e c)) (Eh d c) (GZ e c)) 0)).toNat)) c).fText,ite ((Si d c) > (ite ((ite ((Eh d c)<(GZ e c)) (Eh d c) (GZ e c)) > 0) (ite ((Eh d c)<(GZ e c)) (Eh d c) (GZ e c)) 0)) (Si d c) (ite ((ite ((Eh d c)<(GZ e c)) (Eh d c) (GZ e c)) > 0) (ite ((Eh d c)<(GZ e c)) (Eh d c) (GZ e c)) 0)⟩:BQ)))) none) none) (cond (0<=(ite ((Si d c) > 0) (Si d c) 0)&&(ite ((Si d c) > 0) (Si d c) 0)<=(Eh d c)) (k (.c0 e f (NM c) g ((d.set (Axd c) (WO (Qi d c) (Qi d c).fText (ite ((Si d c) > 0) (Si d c) 0).toNat)).set (Axd c) (⟨(Qi (d.set (Axd c) (WO (Qi d c) (Qi d c).fText (ite ((Si d c) > 0) (Si d c) 0).toNat)) c).fName,(Qi (d.set (Axd c) (WO (Qi d c) (Qi d c).fText (ite ((Si d c) > 0) (Si d c) 0).toNat)) c).fText,ite ((Si d c) > 0) (Si d c) 0⟩:BQ)))) none)) none) (AyC (⟨d⟩,true)))
def DAf:AzH CAf (BU×Bool)
 |0,_=>none
 |m+1,s=>DBA XY V9 (DAf m) s
def QAq:tu:=CBA XY V9 (DAf AY)
def SBh:Avb:=fy u2 QAq AUo jq [CAo,MAb] Tryz.func174 RBh DBA CBA DAf
def EBA (e:Va) (f:WQ) (h:tu):iU:=fun g b a i=>mk (O1 (e a 0 (SG b)) (AyC (IZ,false)) (JD (Hf a (SG b)) ((f g ((b.take (Axd a)).drop 0)).bind fun c=>cond (KZ c.2 a) (AyC (IZ,false)) ((h c.1 i).bind fun d=>AyC (d.1,d.2)))))
def RAq:iU:=EBA Gx qm QAq
def TBh:Avb:=BI u4 RAq AUp jq [KY,ASP,SBh] Tryz.func118 EBA
def FBA (d:Xx) (e:Avp):OL:=fun b=>(d b.Bc).bind fun a=>e.bind fun c=>some ⟨b.BO,false,a,c,[],[],0⟩
def SAq:OL:=FBA V9 Uh
def UBh:Avb:=BI u1 SAq RD U8 [MAb,uD] Tryz.func119 FBA
def TAq (n:Xy) (o:iU) (q:OL) (h:Xz) (j:X0) (d:SH):Zl:=fun a e p=>mk ((n (AyU a) (Ju a) e).bind fun f=>(o a.AX.Bc f.1 1 p).bind fun c=>(q a.AX).bind fun b=>cond c.2 ((h c.1 SI).bind fun g=>(j b.BO g.1).bind fun i=>cond (Ayt (QD i.1) (Ju a)) (cond (iV a.CO) (Un (d ⟨⟨b.BO,b.CZ,c.1,La b,Qd b,Qe b,Gy b⟩,a.Bq,He a,F9 a,a.CO++[e]⟩ 10 Awp)) none) (Un (d ⟨⟨b.BO,b.CZ,c.1,La b,Qd b,Qe b,Gy b⟩,a.Bq,He a,F9 a,a.CO⟩ 10 Awp))) ((h b.Bc SI).bind fun l=>(j b.BO l.1).bind fun m=>cond (Ayt (QD m.1) (Ju a)) (cond (iV a.CO) (Un (d ⟨b,a.Bq,He a,F9 a,a.CO++[e]⟩ 10 Awp)) none) (Un (d ⟨b,a.Bq,He a,F9 a,a.CO⟩ 10 Awp))))
def Y8:Zl:=TAq LAb RAq SAq zu HAc Xl
def VBh:Avb:=BI u3 Y8 AUt VB [WBI,TBh,UBh,DBJ,HBJ,DA6] Tryz.func69 TAq [0]
def GBA (d:Xx) (e:SK):OL:=fun a=>mk ((d a.Bc).bind fun b=>(e (La a)).bind fun c=>Ik (Ayo (Me a)) (Ik (Ayo (NS a)) (some ⟨a.BO,a.CZ,b,c,Qd a,Qe a,Gy a⟩)))
def qX:OL:=GBA V9 iQ
def WBh:Avb:=BI u1 qX RD U8 [MAb,DA5] Tryz.func121 GBA
inductive EAf where
 |c0 (a b d:Int) (e:AA) (f:Bool) (g:AA) (h i:Int) (j:AA) (l n:Int) (o:(List BQ)) (p:(List Af)) (q:(List EG)) (t:(List CS))
def XBh:EAf->Avm
 |.c0 a b d e f g h i j l n o p q t=>(tdo Tryz.f122 224,[vp 0 0,vi 1 a,vi 2 b,vi 7 d],[(0,.var [.str e,.bool f,.own 1000002,.str g,li h,.own 1000005,li i,.str j,li l,.own 1000009,.own 1000010,li n]),(1000002,.sl 90 o),(1000005,.sl 76 p),(1000009,.sl 127 q),(1000010,.sl 157 t)])
def HBA (e:Jv) (k:Aw7 EAf Ap):LAj:=fun a c d=>mk ((e a c).bind fun b=>cond (Jw b) (Ik (Fa b (NS a)) (some ⟨a.BO,a.CZ,a.Bc,La a,Qd a,(Qe a).set (Axd b) (⟨(Pq (Qe a) b).fId,d⟩:CS),Gy a⟩)) (k (.c0 c d 0 a.BO a.CZ (La a).Bv (AwG a) (Qx a) (Tc (La a)) (SL a) (Gy a) (Qy a) (Awf (La a)) (Qd a) (Qe a))))
def UAq (a:Jv) (k:Aw7 EAf Ap):Aw7 EAf Ap
 |.c0 d e b f g h i j l m n o p q c=>mk (cond (Av9 b c.length) (cond (Fa b c.length) (cond (KZ (Pq c b).fId d) (k (.c0 d e (NM b) f g h i j l m n o p q c)) (Ik (Hf b (c.length:Int)) (Ik (Ayo (X3 c b).length) (Ik (Ayo ((X3 c b).length+1)) (Ik (Hf b (c.length:Int)) (Ik (Ayo (((X3 c b)++[(⟨d,e⟩:CS)]).length+(iW c (Axd b) b).length)) (some ⟨f,g,⟨o⟩,⟨h,i,p,j,l,m⟩,q,((X3 c b)++[(⟨d,e⟩:CS)])++(iW c (Axd b) b),n⟩))))))) none) (Ik (Hf b (c.length:Int)) (Ik (Ayo (X3 c b).length) (Ik (Ayo ((X3 c b).length+1)) (Ik (Hf b (c.length:Int)) (Ik (Ayo (((X3 c b)++[(⟨d,e⟩:CS)]).length+(iW c (Axd b) b).length)) (some ⟨f,g,⟨o⟩,⟨h,i,p,j,l,m⟩,q,((X3 c b)++[(⟨d,e⟩:CS)])++(iW c (Axd b) b),n⟩)))))))
def qZ:AzH EAf Ap
 |0,_=>none
 |m+1,s=>UAq ZT (qZ m) s
def qY:LAj:=HBA ZT (qZ AY)
def YBh:Avb:=fy u3 qY Ae8 U8 [TA6] Tryz.func122 XBh UAq HBA qZ [0]
inductive FAf where
 |c0 (ag:Int) (AwA:Bool) (a:Ap) (b:CV) (d:AA) (e:Bool) (f:AA) (g h:Int) (i:AA) (j l:Int) (n:AA) (o:Bool) (p:AA) (q t:Int) (u:AA) (v w:Int) (ai:Af) (x:(List BQ)) (y:(List Af)) (aa:(List EG)) (ab:(List CS)) (ac:(List BQ)) (ad:(List Af)) (ae:(List EG)) (af:(List CS))
 |c1 (a:Ap) (b:CV) (d:AA) (e:Bool) (f:AA) (g h:Int) (i:AA) (j l:Int) (n:AA) (o:Bool) (p:AA) (q t:Int) (u:AA) (v w:Int) (x:(List BQ)) (y:(List Af)) (aa:(List EG)) (ab:(List CS)) (ac:(List BQ)) (ad:(List Af)) (ae:(List EG)) (af:(List CS))
def ZBh:FAf->Avm
 |.c0 AwA ai a b e f g h i j l n o p q t u v w x d y aa ab ac ad ae af ag=>(tdo Tryz.f71 32382,[vi 3 AwA,vp 4 256,vp 5 320,vp 8 512,vp 9 576,vp 11 704,vb 12 ai],[(256,.var [.str a.BO,.bool a.CZ,.BG 90 a.Bc.Ak,.str a.AU.Bv,li a.AU.DU,.BG 76 a.AU.AZ,li a.AU.BM,.str a.AU.Dh,li a.AU.fCount,.BG 127 a.BP,.BG 157 a.BD,li a.CW]),(320,.var [li b.Au,li b.EJ,li b.Ag,li b.Aj,.str b.fText,.bool b.CY,.bool b.CX]),(512,.var [.str e,.bool f,.own 1032770,.str g,li h,.own 1032773,li i,.str j,li l,.own 1032777,.own 1032778,li n]),(576,.var [.str o,.bool p,.own 1036866,.str q,li t,.own 1036869,li u,.str v,li w,.own 1036873,.own 1036874,li x]),(704,.var [li d.fId,li d.Aj,.bool d.CY,.bool d.CX,.bool d.Gw,.bool d.GH,.str d.fValue,li d.fNext]),(1032770,.sl 90 y),(1032773,.sl 76 aa),(1032777,.sl 127 ab),(1032778,.sl 157 ac),(1036866,.sl 90 ad),(1036869,.sl 76 ae),(1036873,.sl 127 af),(1036874,.sl 157 ag)])
 |.c1 a b e f g h i j l n o p q t u v w x y aa ab ac ad ae af ag=>(tdo Tryz.f71 129534,[vp 4 256,vp 5 320,vp 8 512,vp 9 576],[(256,.var [.str a.BO,.bool a.CZ,.BG 90 a.Bc.Ak,.str a.AU.Bv,li a.AU.DU,.BG 76 a.AU.AZ,li a.AU.BM,.str a.AU.Dh,li a.AU.fCount,.BG 127 a.BP,.BG 157 a.BD,li a.CW]),(320,.var [li b.Au,li b.EJ,li b.Ag,li b.Aj,.str b.fText,.bool b.CY,.bool b.CX]),(512,.var [.str e,.bool f,.own 1032770,.str g,li h,.own 1032773,li i,.str j,li l,.own 1032777,.own 1032778,li n]),(576,.var [.str o,.bool p,.own 1036866,.str q,li t,.own 1036869,li u,.str v,li w,.own 1036873,.own 1036874,li x]),(1032770,.sl 90 y),(1032773,.sl 76 aa),(1032777,.sl 127 ab),(1032778,.sl 157 ac),(1036866,.sl 90 ad),(1036869,.sl 76 ae),(1036873,.sl 127 af),(1036874,.sl 157 ag)])
def gG (g:OL) (i:Jv) (j:Qk) (l:LAj) (m:Jv) (k:Aw7 FAf Ap):Zm:=fun e c h f=>mk ((g e).bind fun a=>cond (h != 0) (some a) ((i e (Ay1 c)).bind fun b=>(j (La e) c.Ag).bind fun d=>cond (c.Au == 1) (Ik (Ayo ((Me a)+1)) (some ⟨a.BO,a.CZ,a.Bc,La a,(Qd a)++[(⟨NM (Gy a),false⟩:EG)],Qe a,NM (Gy a)⟩)) (cond (c.Au == 13) (cond (Jw b) (Ik (Hf b (Me a:Int)) (Ik (Hf (NM b) (Me a:Int)) (Ik (0<(Me a)&&(((Axd b) - 0)+(((Qd a).drop (QE b)).take ((Me a) - (QE b))).length)<=(Me a)) (some ⟨a.BO,a.CZ,a.Bc,La a,((Qd a).take ((Axd b) - 0))++(((Qd a).drop (QE b)).take ((Me a) - (QE b))),Qe a,Gy a⟩)))) (cond (c.Au == 2) (cond (Jw b) (Ik (Fa b (Me a)) (some ⟨a.BO,a.CZ,a.Bc,La a,(Qd a).set (Axd b) (⟨(Vl (Qd a) b ⟨0,false⟩).fId,true⟩:EG),Qe a,Gy a⟩)) (k (.c0 f d.2 e c Awp false Awp 0 0 Awp 0 0 a.BO a.CZ (La a).Bv (AwG a) (Qx a) (Tc (La a)) (SL a) (Gy a) d.1 [] [] [] [] (Qy a) (Awf (La a)) (Qd a) (Qe a)))) (k (.c0 f d.2 e c Awp false Awp 0 0 Awp 0 0 a.BO a.CZ (La a).Bv (AwG a) (Qx a) (Tc (La a)) (SL a) (Gy a) d.1 [] [] [] [] (Qy a) (Awf (La a)) (Qd a) (Qe a))))) (cond (c.Au == 2) (cond (Jw b) (Ik (Fa b (Me a)) (some ⟨a.BO,a.CZ,a.Bc,La a,(Qd a).set (Axd b) (⟨(Vl (Qd a) b ⟨0,false⟩).fId,true⟩:EG),Qe a,Gy a⟩)) (k (.c0 f d.2 e c Awp false Awp 0 0 Awp 0 0 a.BO a.CZ (La a).Bv (AwG a) (Qx a) (Tc (La a)) (SL a) (Gy a) d.1 [] [] [] [] (Qy a) (Awf (La a)) (Qd a) (Qe a)))) (k (.c0 f d.2 e c Awp false Awp 0 0 Awp 0 0 a.BO a.CZ (La a).Bv (AwG a) (Qx a) (Tc (La a)) (SL a) (Gy a) d.1 [] [] [] [] (Qy a) (Awf (La a)) (Qd a) (Qe a)))))))
def VAq (a:OL) (b:Jv) (c:Qk) (d:LAj) (e:Jv) (k:Aw7 FAf Ap):Aw7 FAf Ap
 |.c0 H J t f u v w x y z A B g h j l n o p s G C D E F i m q r=>mk (cond (f.Au == 5) (cond J (cond ((Nb G) == 2) (cond (Jw H) (cond (KZ H G.fNext) ((d ⟨g,h,⟨i⟩,⟨j,l,m,n,o,p⟩,q,r,s⟩ G.fId (NM H)).bind fun I=>some I) (k (.c1 t f u v w x y z A B g h j l n o p s C D E F i m q r))) (k (.c1 t f u v w x y z A B g h j l n o p s C D E F i m q r))) (k (.c1 t f u v w x y z A B g h j l n o p s C D E F i m q r))) (k (.c1 t f u v w x y z A B g h j l n o p s C D E F i m q r))) (k (.c1 t f u v w x y z A B g h j l n o p s C D E F i m q r)))
 |.c1 u t _ _ _ _ _ _ _ _ h i l m o p q s _ _ _ _ j n r g=>mk (cond (t.Au == 9) ((e u t.Ag).bind fun f=>cond (Jw f) (Ik (Hf f (g.length:Int)) (Ik (Hf (NM f) (g.length:Int)) (Ik (0<g.length&&(((Axd f) - 0)+(iW g (QE f) (NM f)).length)<=g.length) (some ⟨h,i,⟨j⟩,⟨l,m,n,o,p,q⟩,r,(g.take ((Axd f) - 0))++(iW g (QE f) (NM f)),s⟩)))) (some ⟨h,i,⟨j⟩,⟨l,m,n,o,p,q⟩,r,g,s⟩)) (some ⟨h,i,⟨j⟩,⟨l,m,n,o,p,q⟩,r,g,s⟩))
def gK:AzH FAf Ap
 |0,_=>none
 |m+1,s=>VAq qX qG SA qY ZT (gK m) s
def MK:Zm:=gG qX qG SA qY ZT (gK AY)
def AmS:Avb:=fy u4 MK AUu U8 [WBh,QBJ,KAc,YBh,TA6] Tryz.func71 ZBh VAq gG gK
inductive GAf where
 |c0 (a b:Int) (d:AA) (e f g:Int) (h:AA) (i:Bool) (j:AA) (l n:Int) (o:AA) (p q:Int) (t:DW) (u:(List Ah)) (v:(List BQ)) (w:(List Af)) (x:(List EG)) (y:(List CS)) (aa:(List Int)) (ab:(List AA)) (ac:(List D8)) (ad:(List Ah))
def BBi:GAf->Avm
 |.c0 b d e f g h i j l n o p q t a u v w x y aa ab ac ad=>(tdo Tryz.f32 1000,[vp 0 0,vi 2 b,vp 4 256,vi 7 d,vs 8 e,vi 9 f,vo 45 2928,vi 46 g,vi 47 h],[(0,.var [.str i,.bool j,.own 1000002,.str l,li n,.own 1000005,li o,.str p,li q,.own 1000009,.own 1000010,li t,.own 1000012,.own 1000013,.own 1000014,.own 1000015]),(256,.var [li a.BA.Au,li a.BA.EJ,li a.BA.Ag,li a.BA.Aj,.str a.BA.fText,.bool a.BA.CY,.bool a.BA.CX,.bool a.Nr,.BG 3 a.Lc,.bool a.JY]),(2928,.sl 78 u),(1000002,.sl 90 v),(1000005,.sl 76 w),(1000009,.sl 127 x),(1000010,.sl 157 y),(1000012,.sl 3 aa),(1000013,.sl 9 ab),(1000014,.sl 48 ac),(1000015,.sl 78 ad)])
def xu (h:Rk) (i:Zl) (e:Jv) (j:FAV) (l:Zm) (m:SH) (k:Aw7 GAf Bg):MAj:=fun a c f=>mk ((h a.AX c.BA).bind fun b=>cond c.Nr (cond (AzC (QD b.1)) (cond (WR Qa (QD b.1)) (Un (i a (b.1.getD (Axd Qa) (⟨0,Awp,0,⟨0,0,false,false,false,false,Awp,0⟩⟩:Ah)) c.Lc)) none) ((e a.AX c.BA.Ag).bind fun d=>k (.c0 f b.2.1 b.2.2 d (QD b.1) 0 (AyU a) (Ayd a) (Ay0 a) (Qp a) (NV a) (AxA a) (Ju a) (Axy a) c b.1 (O4 a) (Gt a) (O6 a) (O7 a) a.Bq (He a) (F9 a) a.CO))) ((e a.AX c.BA.Ag).bind fun g=>k (.c0 f b.2.1 b.2.2 g (QD b.1) 0 (AyU a) (Ayd a) (Ay0 a) (Qp a) (NV a) (AxA a) (Ju a) (Axy a) c b.1 (O4 a) (Gt a) (O6 a) (O7 a) a.Bq (He a) (F9 a) a.CO)))
def xw (a:Rk) (b:Zl) (c:Jv) (d:FAV) (e:Zm) (f:SH) (k:Aw7 GAf Bg):Aw7 GAf Bg
 |.c0 q l r o p i v w y z B C D G m j x A E F s t u n=>mk (cond (KZ i p) (cond (QF i j) ((d ⟨v,w,⟨x⟩,⟨y,z,A,B,C,D⟩,E,F,G⟩ (GR j i Awp ⟨0,0,false,false,false,false,Awp,0⟩)).bind fun g=>cond g.1 (cond (iV n) (k (.c0 q l r o p (NM i) g.2.BO g.2.CZ (La g.2).Bv (AwG g.2) (Qx g.2) (Tc (La g.2)) (SL g.2) (Gy g.2) m j (Qy g.2) (Awf (La g.2)) (Qd g.2) (Qe g.2) s t u (n++[GR j i Awp ⟨0,0,false,false,false,false,Awp,0⟩]))) none) (k (.c0 q l r o p (NM i) g.2.BO g.2.CZ (La g.2).Bv (AwG g.2) (Qx g.2) (Tc (La g.2)) (SL g.2) (Gy g.2) m j (Qy g.2) (Awf (La g.2)) (Qd g.2) (Qe g.2) s t u n))) none) ((e ⟨v,w,⟨x⟩,⟨y,z,A,B,C,D⟩,E,F,G⟩ m.BA l o).bind fun H=>(f ⟨H,s,t,u,n⟩ l r).bind fun h=>cond (m.BA.Au == 5) (cond (Ayy l) (cond (FC (((F9 h).length+1)*24)) (some ⟨h.AX,h.Bq,He h,(F9 h)++[(⟨m.BA.Ag,o,q⟩:D8)],h.CO⟩) none) (some h)) (some h)))
def dM:AzH GAf Bg
 |0,_=>none
 |m+1,s=>xw RZ Y8 Vd XU MK Xl (dM m) s
def Rh:MAj:=xu RZ Y8 Vd XU MK Xl (dM AY)
def CBi:Avb:=fy u3 Rh Ae9 VB [QBh,VBh,VBJ,AaE,AmS,DA6] Tryz.func32 BBi xw xu dM [0]
inductive JAf where
 |c0 (v:AA) (w x:(List DW)) (y aa:Int) (a:AA) (b:Bool) (d:AA) (e f:Int) (g:AA) (h i:Int) (ab:AA) (ac:Bool) (ad:AA) (ae af:Int) (ag:AA) (AwA ai:Int) (j:(List BQ)) (l:(List Af)) (n:(List EG)) (o:(List CS)) (p:(List Int)) (q:(List AA)) (t:(List D8)) (u:(List Ah)) (AwB:(List BQ)) (bF:(List Af)) (al:(List EG)) (am:(List CS))
 |c1 (an:(List DW)) (ao ap:Int) (a:AA) (b:Bool) (d:AA) (e f:Int) (g:AA) (h i:Int) (aq:AA) (ar:Bool) (AdO:AA) (av aw:Int) (ax:AA) (Avt az:Int) (j:(List BQ)) (l:(List Af)) (n:(List EG)) (o:(List CS)) (p:(List Int)) (q:(List AA)) (t:(List D8)) (u:(List Ah)) (a0:(List BQ)) (a1:(List Af)) (a2:(List EG)) (a3:(List CS)) (a4:(List Int)) (a5:(List AA)) (a6:(List D8)) (a7:(List Ah))
def EBi:JAf->Avm
 |.c0 v w x y aa a b d e f g h i ab ac ad ae af ag AwA ai j l n o p q t u AwB bF al am=>(tdo Tryz.f8 488,[vs 1 v,vr 2 72 w,vp 6 384,vp 8 512,vr 29 72 x,vi 30 y,vi 31 aa],[(384,.var [.str a,.bool b,.own 1024578,.str d,li e,.own 1024581,li f,.str g,li h,.own 1024585,.own 1024586,li i,.own 1024588,.own 1024589,.own 1024590,.own 1024591]),(512,.var [.str ab,.bool ac,.own 1032770,.str ad,li ae,.own 1032773,li af,.str ag,li AwA,.own 1032777,.own 1032778,li ai]),(1024578,.sl 90 j),(1024581,.sl 76 l),(1024585,.sl 127 n),(1024586,.sl 157 o),(1024588,.sl 3 p),(1024589,.sl 9 q),(1024590,.sl 48 t),(1024591,.sl 78 u),(1032770,.sl 90 AwB),(1032773,.sl 76 bF),(1032777,.sl 127 al),(1032778,.sl 157 am)])
 |.c1 an ao ap a b d e f g h i aq ar AdO av aw ax Avt az j l n o p q t u a0 a1 a2 a3 a4 a5 a6 a7=>(tdo Tryz.f8 2024,[vp 6 384,vp 12 768,vr 46 72 an,vi 47 ao,vi 48 ap],[(384,.var [.str a,.bool b,.own 1024578,.str d,li e,.own 1024581,li f,.str g,li h,.own 1024585,.own 1024586,li i,.own 1024588,.own 1024589,.own 1024590,.own 1024591]),(768,.var [.str aq,.bool ar,.own 1049154,.str AdO,li av,.own 1049157,li aw,.str ax,li Avt,.own 1049161,.own 1049162,li az,.own 1049164,.own 1049165,.own 1049166,.own 1049167]),(1024578,.sl 90 j),(1024581,.sl 76 l),(1024585,.sl 127 n),(1024586,.sl 157 o),(1024588,.sl 3 p),(1024589,.sl 9 q),(1024590,.sl 48 t),(1024591,.sl 78 u),(1049154,.sl 90 a0),(1049157,.sl 76 a1),(1049161,.sl 127 a2),(1049162,.sl 157 a3),(1049164,.sl 3 a4),(1049165,.sl 9 a5),(1049166,.sl 48 a6),(1049167,.sl 78 a7)])
def IBA (d:iY) (f:Zn) (g:AwT) (h:HAj) (i:MAj) (k:Aw7 JAf (Bg×Bool)):GAV:=fun e c b=>mk ((d e c).bind fun a=>cond (!a.2) (some (⟨⟨Awp,false,IZ,Mc,[],[],0⟩,[],[],[],[]⟩,false)) (cond ((b.length:Int) > 40) (some (⟨⟨Awp,false,IZ,Mc,[],[],0⟩,[],[],[],[]⟩,false)) (k (.c0 c b b (b.length:Int) 0 Awp false Awp 0 0 Awp 0 0 a.1.BO a.1.CZ (La a.1).Bv (AwG a.1) (Qx a.1) (Tc (La a.1)) (SL a.1) (Gy a.1) [] [] [] [] [] [] [] [] (Qy a.1) (Awf (La a.1)) (Qd a.1) (Qe a.1)))))
def oL (a:iY) (b:Zn) (c:AwT) (d:HAj) (e:MAj) (k:Aw7 JAf (Bg×Bool)):Aw7 JAf (Bg×Bool)
 |.c0 l h g i f m n o p q r s t u v w x y z A B C D E F G H I J L M N O=>mk (cond (KZ f i) (cond (Fa f g.length) ((b (g.getD (Axd f) (⟨⟨0,0,0,0,Awp,false,false⟩,false,[],false⟩:DW))).bind fun j=>cond (!j) (some (⟨⟨Awp,false,IZ,Mc,[],[],0⟩,[],[],[],[]⟩,false)) (k (.c0 l h g i (NM f) m n o p q r s t u v w x y z A B C D E F G H I J L M N O))) none) ((c l).bind fun P=>k (.c1 h (h.length:Int) 0 m n o p q r s t u v w x y z A B C D E F G H I J L M N O [] [] [] [⟨1,P,0,⟨0,0,false,false,false,false,Awp,0⟩⟩])))
 |.c1 i j h B C D E F G H I l m o p r s t w J L M N O P Q R n q u v x y z A=>mk (cond (KZ h j) (cond (Fa h i.length) (cond (i.getD (Axd h) (⟨⟨0,0,0,0,Awp,false,false⟩,false,[],false⟩:DW)).JY ((d ⟨⟨l,m,⟨n⟩,⟨o,p,q,r,s,t⟩,u,v,w⟩,x,y,z,A⟩).bind fun f=>k (.c1 i j (NM h) B C D E F G H I (AyU f) (Ayd f) (Ay0 f) (Qp f) (NV f) (AxA f) (Ju f) (Axy f) J L M N O P Q R (O4 f) (Gt f) (O6 f) (O7 f) f.Bq (He f) (F9 f) f.CO)) ((e ⟨⟨l,m,⟨n⟩,⟨o,p,q,r,s,t⟩,u,v,w⟩,x,y,z,A⟩ (i.getD (Axd h) (⟨⟨0,0,0,0,Awp,false,false⟩,false,[],false⟩:DW)) h).bind fun g=>k (.c1 i j (NM h) B C D E F G H I (AyU g) (Ayd g) (Ay0 g) (Qp g) (NV g) (AxA g) (Ju g) (Axy g) J L M N O P Q R (O4 g) (Gt g) (O6 g) (O7 g) g.Bq (He g) (F9 g) g.CO))) none) (some (⟨⟨l,m,⟨n⟩,⟨o,p,q,r,s,t⟩,u,v,w⟩,x,y,z,A⟩,true)))
def XV:AzH JAf (Bg×Bool)
 |0,_=>none
 |m+1,s=>oL zT zW J9 ZC Rh (XV m) s
def xC:GAV:=IBA zT zW J9 ZC Rh (XV AY)
def FBi:Avb:=fy u3 xC AU4 AKq [ZBc,AmZ,TW,PBd,CBi] Tryz.func8 EBi oL IBA XV
def JBA (b:Va):X4:=fun a=>mk (Awc (b a.Au 1 13) (Awc (b (Ay1 a) 0 1000) (Awc (b a.Ag 0 1000) (Awc (b a.Aj 0 3) (some (decide ((Awq a.fText)<=1000))) (some false)) (some false)) (some false)) (some false))
def WAq:X4:=JBA AzN
def HBi:Avb:=BI u1 WAq AKm E8 [AzY] Tryz.func74 JBA
def UBK:X4:=fun a=>mk (some ((Ayy a.Au) && ((Ayy (Ay1 a)) && ((Ayy a.Ag) && ((Ayy a.Aj) && ((Aww a.fText Awp) && ((a.CY == false) && ((a.CX == false) && true))))))))
def KBA:X4:=UBK
def IBi:Avb:=BI u1 KBA AKm E8 [] Tryz.func75 UBK
def LBA (b c:X4):Zn:=fun a=>mk (Axg ((Aw3 a.Lc)<=30) (Awc (b a.BA) (some true) (Axg a.JY (O8 (c a.BA)) (some false))) (some false))
def LAf:Zn:=LBA WAq KBA
def JBi:Avb:=BI u1 LAf AU1 E8 [HBi,IBi] Tryz.func34 LBA
inductive oO where
 |c0 (a:(List DW)) (an:Bool) (ao:Int) (b:AA) (d:Bool) (e:AA) (f g:Int) (h:AA) (i j:Int) (l:AA) (n:Bool) (o:AA) (p q:Int) (t:AA) (u v:Int) (w:(List BQ)) (x:(List Af)) (y:(List EG)) (aa:(List CS)) (ab:(List Int)) (ac:(List AA)) (ad:(List D8)) (ae:(List Ah)) (af:(List BQ)) (ag:(List Af)) (AwA:(List EG)) (ai:(List CS)) (AwB:(List Int)) (bF:(List AA)) (al:(List D8)) (am:(List Ah))
 |c1 (a:(List DW)) (ap:Int) (b:AA) (d:Bool) (e:AA) (f g:Int) (h:AA) (i j:Int) (l:AA) (n:Bool) (o:AA) (p q:Int) (t:AA) (u v:Int) (w:(List BQ)) (x:(List Af)) (y:(List EG)) (aa:(List CS)) (ab:(List Int)) (ac:(List AA)) (ad:(List D8)) (ae:(List Ah)) (af:(List BQ)) (ag:(List Af)) (AwA:(List EG)) (ai:(List CS)) (AwB:(List Int)) (bF:(List AA)) (al:(List D8)) (am:(List Ah))
def KBi:oO->Avm
 |.c0 a an ao b d e f g h i j l n o p q t u v w x y aa ab ac ad ae af ag AwA ai AwB bF al am=>(tdo Tryz.f9 464,[vr 2 72 a,vp 6 384,vp 8 512,vb 9 an,vi 10 ao],[(384,.var [.str b,.bool d,.own 1024578,.str e,li f,.own 1024581,li g,.str h,li i,.own 1024585,.own 1024586,li j,.own 1024588,.own 1024589,.own 1024590,.own 1024591]),(512,.var [.str l,.bool n,.own 1032770,.str o,li p,.own 1032773,li q,.str t,li u,.own 1032777,.own 1032778,li v,.own 1032780,.own 1032781,.own 1032782,.own 1032783]),(1024578,.sl 90 w),(1024581,.sl 76 x),(1024585,.sl 127 y),(1024586,.sl 157 aa),(1024588,.sl 3 ab),(1024589,.sl 9 ac),(1024590,.sl 48 ad),(1024591,.sl 78 ae),(1032770,.sl 90 af),(1032773,.sl 76 ag),(1032777,.sl 127 AwA),(1032778,.sl 157 ai),(1032780,.sl 3 AwB),(1032781,.sl 9 bF),(1032782,.sl 48 al),(1032783,.sl 78 am)])
 |.c1 a ap b d e f g h i j l n o p q t u v w x y aa ab ac ad ae af ag AwA ai AwB bF al am=>(tdo Tryz.f9 2000,[vr 2 72 a,vp 6 384,vp 8 512,vi 11 ap],[(384,.var [.str b,.bool d,.own 1024578,.str e,li f,.own 1024581,li g,.str h,li i,.own 1024585,.own 1024586,li j,.own 1024588,.own 1024589,.own 1024590,.own 1024591]),(512,.var [.str l,.bool n,.own 1032770,.str o,li p,.own 1032773,li q,.str t,li u,.own 1032777,.own 1032778,li v,.own 1032780,.own 1032781,.own 1032782,.own 1032783]),(1024578,.sl 90 w),(1024581,.sl 76 x),(1024585,.sl 127 y),(1024586,.sl 157 aa),(1024588,.sl 3 ab),(1024589,.sl 9 ac),(1024590,.sl 48 ad),(1024591,.sl 78 ae),(1032770,.sl 90 af),(1032773,.sl 76 ag),(1032777,.sl 127 AwA),(1032778,.sl 157 ai),(1032780,.sl 3 AwB),(1032781,.sl 9 bF),(1032782,.sl 48 al),(1032783,.sl 78 am)])
def MBA (b:uF) (f:Zn) (g:X5) (h:OL) (k:Aw7 oO (Bg×Bool)):GAV:=fun c d e=>mk ((b c d).bind fun a=>k (.c0 e a.2 0 Awp false Awp 0 0 Awp 0 0 (AyU a.1) (Ayd a.1) (Ay0 a.1) (Qp a.1) (NV a.1) (AxA a.1) (Ju a.1) (Axy a.1) [] [] [] [] [] [] [] [] (O4 a.1) (Gt a.1) (O6 a.1) (O7 a.1) a.1.Bq (He a.1) (F9 a.1) a.1.CO))
def oM (a:uF) (b:Zn) (c:X5) (d:OL) (k:Aw7 oO (Bg×Bool)):Aw7 oO (Bg×Bool)
 |.c0 e O f g h i j l m n o p q r s t u v w x y z A B C D E F G H I J L M N=>mk (cond (Av9 f e.length) (cond O (cond ((e.length:Int)<=40) (cond (Fa f e.length) ((b (e.getD (Axd f) (⟨⟨0,0,0,0,Awp,false,false⟩,false,[],false⟩:DW))).bind fun P=>k (.c0 e P (NM f) g h i j l m n o p q r s t u v w x y z A B C D E F G H I J L M N)) none) (k (.c0 e false (NM f) g h i j l m n o p q r s t u v w x y z A B C D E F G H I J L M N))) (cond (!O) (some (⟨⟨Awp,false,IZ,Mc,[],[],0⟩,[],[],[],[]⟩,false)) (k (.c1 e 0 g h i j l m n o p q r s t u v w x y z A B C D E F G H I J L M N)))) (cond (!O) (some (⟨⟨Awp,false,IZ,Mc,[],[],0⟩,[],[],[],[]⟩,false)) (k (.c1 e 0 g h i j l m n o p q r s t u v w x y z A B C D E F G H I J L M N))))
 |.c1 g f z A B C D E F G h i l m o p q t H I J L M N O P j n r s u v w x=>mk (cond (Av9 f g.length) (cond (Fa f g.length) ((c ⟨⟨h,i,⟨j⟩,⟨l,m,n,o,p,q⟩,r,s,t⟩,u,v,w,x⟩ f (g.getD (Axd f) (⟨⟨0,0,0,0,Awp,false,false⟩,false,[],false⟩:DW))).bind fun e=>k (.c1 g (NM f) z A B C D E F G (AyU e) (Ayd e) (Ay0 e) (Qp e) (NV e) (AxA e) (Ju e) (Axy e) H I J L M N O P (O4 e) (Gt e) (O6 e) (O7 e) e.Bq (He e) (F9 e) e.CO)) none) ((d ⟨h,i,⟨j⟩,⟨l,m,n,o,p,q⟩,r,s,t⟩).bind fun y=>some (⟨y,u,v,w,x⟩,true)))
def XW:AzH oO (Bg×Bool)
 |0,_=>none
 |m+1,s=>oM fF LAf Av8 Y9 (XW m) s
def kD:GAV:=MBA fF LAf Av8 Y9 (XW AY)
def LBi:Avb:=fy u3 kD AU4 AKq [TBG,JBi,JBI,FBI] Tryz.func9 KBi oM MBA XW
inductive MAf where
 |c0 (a b:(List Int)) (d:Int)
def MBi:MAf->Avm
 |.c0 a b d=>(tdo Tryz.f11 464,[vr 0 3 a,vr 1 3 b,vi 5 d],[])
def NBA (k:Aw7 MAf Bool):YAv:=fun a b=>mk (cond ((Aw3 a) != (Aw3 b)) (some false) (k (.c0 a b 0)))
def XAq (k:Aw7 MAf Bool):Aw7 MAf Bool
 |.c0 b c a=>mk (cond (KZ a (Aw3 b)) (cond (Fb a b) (cond (Fb a c) (cond ((GZ b a) != (GZ c a)) (some false) (k (.c0 b c (NM a)))) none) none) (some true))
def oP:AzH MAf Bool
 |0,_=>none
 |m+1,s=>XAq (oP m) s
def YAq:YAv:=NBA (oP AY)
def NBi:Avb:=fy u2 YAq bK E8 [] Tryz.func11 MBi XAq NBA oP
inductive oU where
 |c0 (a b:(List AA)) (d:Int)
def OBi:oU->Avm
 |.c0 a b d=>(tdo Tryz.f15 464,[vr 0 9 a,vr 1 9 b,vi 5 d],[])
def OBA (k:Aw7 oU Bool):ZAv:=fun a b=>mk (cond ((FD a) != (FD b)) (some false) (k (.c0 a b 0)))
def ZAq (k:Aw7 oU Bool):Aw7 oU Bool
 |.c0 b c a=>mk (cond (KZ a (FD b)) (cond (NZ a b) (cond (NZ a c) (cond (!(Aww (Jf b a Awp) (Jf c a Awp))) (some false) (k (.c0 b c (NM a)))) none) none) (some true))
def oQ:AzH oU Bool
 |0,_=>none
 |m+1,s=>ZAq (oQ m) s
def AGq:ZAv:=OBA (oQ AY)
def PBi:Avb:=fy u2 AGq AfB E8 [] Tryz.func15 OBi ZAq OBA oQ
inductive NAf where
 |c0 (a b:(List Ah)) (d:Int)
def QBi:NAf->Avm
 |.c0 a b d=>(tdo Tryz.f16 464,[vr 0 78 a,vr 1 78 b,vi 5 d],[])
def PBA (k:Aw7 NAf Bool):ASW:=fun a b=>mk (cond ((QD a) != (QD b)) (some false) (k (.c0 a b 0)))
def BAr (k:Aw7 NAf Bool):Aw7 NAf Bool
 |.c0 b c a=>mk (cond (Av9 a b.length) (cond (QF a b) (cond (QF a c) (cond (!(((GR b a Awp ⟨0,0,false,false,false,false,Awp,0⟩).Aj == (GR c a Awp ⟨0,0,false,false,false,false,Awp,0⟩).Aj) && ((Aww (GR b a Awp ⟨0,0,false,false,false,false,Awp,0⟩).fText (GR c a Awp ⟨0,0,false,false,false,false,Awp,0⟩).fText) && (((GR b a Awp ⟨0,0,false,false,false,false,Awp,0⟩).DR == (GR c a Awp ⟨0,0,false,false,false,false,Awp,0⟩).DR) && ((((Awt (GR b a Awp ⟨0,0,false,false,false,false,Awp,0⟩)).fId == (Awt (GR c a Awp ⟨0,0,false,false,false,false,Awp,0⟩)).fId) && (((Nb (Awt (GR b a Awp ⟨0,0,false,false,false,false,Awp,0⟩))) == (Nb (Awt (GR c a Awp ⟨0,0,false,false,false,false,Awp,0⟩)))) && (((AzT (Awt (GR b a Awp ⟨0,0,false,false,false,false,Awp,0⟩))) == (AzT (Awt (GR c a Awp ⟨0,0,false,false,false,false,Awp,0⟩)))) && (((Awk (Awt (GR b a Awp ⟨0,0,false,false,false,false,Awp,0⟩))) == (Awk (Awt (GR c a Awp ⟨0,0,false,false,false,false,Awp,0⟩)))) && (((GU (Awt (GR b a Awp ⟨0,0,false,false,false,false,Awp,0⟩))) == (GU (Awt (GR c a Awp ⟨0,0,false,false,false,false,Awp,0⟩)))) && (((AwY (Awt (GR b a Awp ⟨0,0,false,false,false,false,Awp,0⟩))) == (AwY (Awt (GR c a Awp ⟨0,0,false,false,false,false,Awp,0⟩)))) && ((Aww (Oc (Awt (GR b a Awp ⟨0,0,false,false,false,false,Awp,0⟩))) (Oc (Awt (GR c a Awp ⟨0,0,false,false,false,false,Awp,0⟩)))) && (((Awt (GR b a Awp ⟨0,0,false,false,false,false,Awp,0⟩)).fNext == (Awt (GR c a Awp ⟨0,0,false,false,false,false,Awp,0⟩)).fNext) && true)))))))) && true))))) (some false) (k (.c0 b c (NM a)))) none) none) (some true))
def oV:AzH NAf Bool
 |0,_=>none
 |m+1,s=>BAr (oV m) s
def CAr:ASW:=PBA (oV AY)
def RBi:Avb:=fy u2 CAr AfC E8 [] Tryz.func16 QBi BAr PBA oV
inductive OAf where
 |c0 (a b:Int) (d:(List Ah)) (e f:Int)
def SBi:OAf->Avm
 |.c0 a b d e f=>(tdo Tryz.f39 232,[vi 1 a,vi 5 b,vr 8 78 d,vi 9 e,vi 10 f],[])
def QBA (k:Aw7 OAf Int):Zo:=fun a b=>mk (k (.c0 b 0 a (QD a) 0))
def DAr (k:Aw7 OAf Int):Aw7 OAf Int
 |.c0 d e b c a=>mk (cond (KZ a c) (cond (QF a b) (cond ((GR b a Awp ⟨0,0,false,false,false,false,Awp,0⟩).Aj == 3) (cond ((Awt (GR b a Awp ⟨0,0,false,false,false,false,Awp,0⟩)).fId == d) (k (.c0 d (Awt (GR b a Awp ⟨0,0,false,false,false,false,Awp,0⟩)).fNext b c (NM a))) (k (.c0 d e b c (NM a)))) (k (.c0 d e b c (NM a)))) none) (some e))
def oW:AzH OAf Int
 |0,_=>none
 |m+1,s=>DAr (oW m) s
def zX:Zo:=QBA (oW AY)
def TBi:Avb:=fy u2 zX AU5 FN [] Tryz.func39 SBi DAr QBA oW
inductive QAf where
 |c0 (a b:(List D8)) (d e:Int)
 |c1 (a b:(List D8)) (d e:Int) (f:(List D8)) (g h:Int) (i:D8)
def UBi:QAf->Avm
 |.c0 a b d e=>(tdo Tryz.f24 104,[vr 0 48 a,vr 7 48 b,vi 8 d,vi 9 e],[])
 |.c1 a b d e g h i f=>(tdo Tryz.f24 27032,[vr 0 48 a,vp 4 256,vr 7 48 b,vi 8 d,vi 9 e,vr 16 48 g,vi 17 h,vi 18 i],[(256,.var [li f.Ag,li f.Dv,li f.AUi])])
def RBA (k:Aw7 QAf Bool):Uz:=fun a=>k (.c0 a a (a.length:Int) 0)
def oZ (k:Aw7 QAf Bool):Aw7 QAf Bool
 |.c0 b c d a=>mk (cond (KZ a d) (cond (Aw0 a c) (cond (Hf a (b.length:Int)) (k (.c1 b c d a ((b.take (Axd a)).drop 0) (((b.take (Axd a)).drop 0).length:Int) 0 (OQ c a))) none) none) (some true))
 |.c1 e f g h b d a c=>mk (cond (KZ a d) (cond (Aw0 a b) (cond (c.Ag == (OQ b a).Ag) (cond (c.Dv == (OQ b a).Dv) (some false) (k (.c1 e f g h b d (NM a) c))) (k (.c1 e f g h b d (NM a) c))) none) (k (.c0 e f g (NM h))))
def Vu:AzH QAf Bool
 |0,_=>none
 |m+1,s=>oZ (Vu m) s
def zY:Uz:=RBA (Vu AY)
def VBi:Avb:=fy u1 zY AEf E8 [] Tryz.func24 UBi oZ RBA Vu
inductive SAf where
 |c0 (a:Int) (b:(List D8)) (d e:Int) (f:(List Int))
def WBi:SAf->Avm
 |.c0 a b d e f=>(tdo Tryz.f10 232,[vi 1 a,vo 5 368,vr 8 48 b,vi 9 d,vi 10 e],[(368,.sl 3 f)])
def VBK (k:Aw7 SAf (List Int)):NAj:=fun a b=>k (.c0 b a (a.length:Int) 0 [])
def EAr (k:Aw7 SAf (List Int)):Aw7 SAf (List Int)
 |.c0 e b d a c=>mk (cond (KZ a d) (cond (Aw0 a b) (cond ((OQ b a).Ag == e) (cond (PD c) (k (.c0 e b d (NM a) (c++[(OQ b a).Dv]))) none) (k (.c0 e b d (NM a) c))) none) (Md c))
def fG:AzH SAf (List Int)
 |0,_=>none
 |m+1,s=>EAr (fG m) s
def FAr:NAj:=VBK (fG AY)
def XBi:Avb:=fy u2 FAr AfA JZ [] Tryz.func10 WBi EAr VBK fG
inductive TAf where
 |c0 (a b:(List D8)) (d e:Int)
 |c1 (a:(List D8)) (f:Int) (b:(List D8)) (d e:Int) (g:(List Int))
def YBi:TAf->Avm
 |.c0 a b d e=>(tdo Tryz.f25 104,[vr 0 48 a,vr 7 48 b,vi 8 d,vi 9 e],[])
 |.c1 a f b d e g=>(tdo Tryz.f25 108144,[vr 0 48 a,vo 5 368,vi 6 f,vr 7 48 b,vi 8 d,vi 9 e],[(368,.sl 3 g)])
def SBA (b:NAj) (k:Aw7 TAf Bool):Uz:=fun a=>k (.c0 a a (a.length:Int) 0)
def oh (a:NAj) (k:Aw7 TAf Bool):Aw7 TAf Bool
 |.c0 f c d b=>mk (cond (KZ b d) (cond (Aw0 b c) ((a f (OQ c b).Ag).bind fun e=>k (.c1 f 1 c d b e)) none) (some true))
 |.c1 d b e f g c=>mk (cond (KZ b (Aw3 c)) (cond (Av1 (b - 1) c) (cond (Fb b c) (cond (Avi (AzV c (b - 1)) (GZ c b)) (some false) (k (.c1 d (NM b) e f g c))) none) none) (k (.c0 d e f (NM g))))
def Vw:AzH TAf Bool
 |0,_=>none
 |m+1,s=>oh FAr (Vw m) s
def zf:Uz:=SBA FAr (Vw AY)
def ZBi:Avb:=fy u1 zf AEf E8 [XBi] Tryz.func25 YBi oh SBA Vw
def TBA (f:Avp) (g:Zp) (e:WS) (h:Tz):SQ:=fun a=>mk (f.bind fun d=>(g d a.CO).bind fun b=>Axg (!b.2) (some false) (Axg (Ayd a) (O8 (e b.1 (X6 a))) ((h (AyU a) a.AX.Bc).bind fun c=>Axg c.2.2 (O8 (e b.1 c.1)) (some false))))
def zh:SQ:=TBA Uh JAc pG fQ
def Amv:Avb:=BI u1 zh AEg E8 [uD,IBJ,CBJ,WA5] Tryz.func20 TBA
inductive WAf where
 |c0 (a:(List Ah)) (b d:Int) (e:AA) (f g:Int) (h:AA) (i:Int) (j:(List Af))
 |c1 (a:(List Ah)) (b d:Int) (l n:Int) (e:AA) (f g:Int) (h:AA) (i:Int) (o:AA) (p q:Int) (t:AA) (u:Int) (v w:(List Af))
def BBj:WAf->Avm
 |.c0 a b d e f g h i j=>(tdo Tryz.f22 232,[vp 3 192,vr 13 78 a,vi 14 b,vi 15 d],[(192,.var [.str e,li f,.own 1012290,li g,.str h,li i]),(1012290,.sl 76 j)])
 |.c1 a b d l n e f g h i o p q t u v w=>(tdo Tryz.f22 478440,[vp 3 192,vp 6 384,vr 13 78 a,vi 14 b,vi 15 d,vo 28 1840,vi 29 l,vi 30 n],[(192,.var [.str e,li f,.own 1840,li g,.str h,li i]),(384,.var [.str o,li p,.own 1024578,li q,.str t,li u]),(1840,.sl 76 v),(1024578,.sl 76 w)])
def UBA (c:Avp) (d:AxE) (e:Qk) (k:Aw7 WAf Bool):Zq:=fun b=>mk (c.bind fun a=>k (.c0 b (QD b) 0 a.Bv (Ax5 a) a.BM (Tc a) a.fCount (Awf a)))
def oq (a:Avp) (b:AxE) (c:Qk) (k:Aw7 WAf Bool):Aw7 WAf Bool
 |.c0 f h e i j l m n g=>mk (cond (KZ e h) (cond (QF e f) ((b ⟨i,j,g,l,m,n⟩ (GR f e Awp ⟨0,0,false,false,false,false,Awp,0⟩)).bind fun d=>cond (!d.2) (some false) (k (.c1 f h e (g.length:Int) 0 i j l m n d.1.Bv (Ax5 d.1) d.1.BM (Tc d.1) d.1.fCount g (Awf d.1)))) none) (some true))
 |.c1 o p q n d r s t u v g h j l m e i=>mk (cond (KZ d n) (cond (Fa d e.length) ((c ⟨g,h,i,j,l,m⟩ (Eb e d ⟨0,0,false,false,false,false,Awp,0⟩).fId).bind fun f=>cond f.2 (cond ((Nb f.1) != (Nb (Eb e d ⟨0,0,false,false,false,false,Awp,0⟩))) (some false) (cond (!(Aww (Oc f.1) (Oc (Eb e d ⟨0,0,false,false,false,false,Awp,0⟩)))) (some false) (cond (AzT (Eb e d ⟨0,0,false,false,false,false,Awp,0⟩)) (cond (!(AzT f.1)) (some false) (cond (Awk (Eb e d ⟨0,0,false,false,false,false,Awp,0⟩)) (cond (!(Awk f.1)) (some false) (cond (X7 f e d ⟨0,0,false,false,false,false,Awp,0⟩) (some false) (k (.c1 o p q n (NM d) r s t u v g h j l m e i)))) (cond (X7 f e d ⟨0,0,false,false,false,false,Awp,0⟩) (some false) (k (.c1 o p q n (NM d) r s t u v g h j l m e i))))) (cond (Awk (Eb e d ⟨0,0,false,false,false,false,Awp,0⟩)) (cond (!(Awk f.1)) (some false) (cond (X7 f e d ⟨0,0,false,false,false,false,Awp,0⟩) (some false) (k (.c1 o p q n (NM d) r s t u v g h j l m e i)))) (cond (X7 f e d ⟨0,0,false,false,false,false,Awp,0⟩) (some false) (k (.c1 o p q n (NM d) r s t u v g h j l m e i))))))) (k (.c1 o p q n (NM d) r s t u v g h j l m e i))) none) (k (.c0 o p (NM q) g h j l m i)))
def Ay9:AzH WAf Bool
 |0,_=>none
 |m+1,s=>oq Uh Zk SA (Ay9 m) s
def zi:Zq:=UBA Uh Zk SA (Ay9 AY)
def CBj:Avb:=fy u1 zi AU6 E8 [uD,IA5,KAc] Tryz.func22 BBj oq UBA Ay9
inductive YAf where
 |c0 (a:(List D8)) (b d:Int) (e:Bg)
def DBj:YAf->Avm
 |.c0 b d e a=>(tdo Tryz.f17 104,[vp 1 64,vr 6 48 b,vi 7 d,vi 8 e],[(64,.var [.str a.AX.BO,.bool a.AX.CZ,.BG 90 a.AX.Bc.Ak,.str a.AX.AU.Bv,li a.AX.AU.DU,.BG 76 a.AX.AU.AZ,li a.AX.AU.BM,.str a.AX.AU.Dh,li a.AX.AU.fCount,.BG 127 a.AX.BP,.BG 157 a.AX.BD,li a.AX.CW,.BG 3 a.Bq,.BG 9 a.EN,.BG 48 a.Cm,.BG 78 a.CO])])
def VBA (b:Zo) (c d:Uz) (e:SQ) (f:Zq) (g:Qn) (k:Aw7 YAf Bool):SQ:=fun a=>mk (k (.c0 (F9 a) ((F9 a).length:Int) 0 a))
def GAr (a:Zo) (b c:Uz) (d:SQ) (e:Zq) (f:Qn) (k:Aw7 YAf Bool):Aw7 YAf Bool
 |.c0 i j h g=>mk (cond (KZ h j) (cond (Aw0 h i) ((a g.CO (OQ i h).Ag).bind fun l=>cond (Avi (OQ i h).Dv l) (some false) (k (.c0 i j (NM h) g))) none) (Awc (b (F9 g)) (Awc (c (F9 g)) (Awc (d g) (Awc (e g.CO) (O8 (f g.AX)) (some false)) (some false)) (some false)) (some false)))
def ou:AzH YAf Bool
 |0,_=>none
 |m+1,s=>GAr zX zY zf zh zi XD (ou m) s
def HAr:SQ:=VBA zX zY zf zh zi XD (ou AY)
def EBj:Avb:=fy u1 HAr AEg E8 [TBi,VBi,ZBi,Amv,CBj,ASZ] Tryz.func17 DBj GAr VBA ou
inductive ZAf where
 |c0 (a:(List Ah)) (b d e:Int)
def FBj:ZAf->Avm
 |.c0 a b d e=>(tdo Tryz.f41 464,[vr 0 78 a,vi 1 b,vi 5 d,vi 6 e],[])
def WBA (k:Aw7 ZAf Int):Zo:=fun a b=>k (.c0 a b 0 0)
def IAr (k:Aw7 ZAf Int):Aw7 ZAf Int
 |.c0 b c d a=>mk (cond (Av9 a b.length) (cond (QF a b) (cond ((GR b a Awp ⟨0,0,false,false,false,false,Awp,0⟩).Aj == 3) (cond (QF a b) (cond ((Awt (GR b a Awp ⟨0,0,false,false,false,false,Awp,0⟩)).fId == c) (cond (QF a b) (k (.c0 b c (Awt (GR b a Awp ⟨0,0,false,false,false,false,Awp,0⟩)).fNext (NM a))) none) (k (.c0 b c d (NM a)))) none) (k (.c0 b c d (NM a)))) none) (some d))
def oz:AzH ZAf Int
 |0,_=>none
 |m+1,s=>IAr (oz m) s
def zk:Zo:=WBA (oz AY)
def GBj:Avb:=fy u2 zk AU5 FN [] Tryz.func41 FBj IAr WBA oz
inductive BAg where
 |c0 (a:(List D8)) (b:Int)
 |c1 (a:(List D8)) (b d:Int)
def HBj:BAg->Avm
 |.c0 a b=>(tdo Tryz.f42 208,[vr 0 48 a,vi 3 b],[])
 |.c1 a b d=>(tdo Tryz.f42 13456,[vr 0 48 a,vi 3 b,vi 4 d],[])
def XBA (k:Aw7 BAg Bool):Uz:=fun a=>k (.c0 a 0)
def o7 (k:Aw7 BAg Bool):Aw7 BAg Bool
 |.c0 b a=>mk (cond (Av9 a b.length) (k (.c1 b a 0)) (some true))
 |.c1 a b c=>mk (cond (KZ c b) (cond (Aw0 b a) (cond (Aw0 c a) (cond ((OQ a b).Ag == (OQ a c).Ag) (cond (Aw0 b a) (cond (Aw0 c a) (cond ((OQ a b).Dv == (OQ a c).Dv) (some false) (k (.c1 a b (NM c)))) none) none) (k (.c1 a b (NM c)))) none) none) (k (.c0 a (NM b))))
def Av4:AzH BAg Bool
 |0,_=>none
 |m+1,s=>o7 (Av4 m) s
def zl:Uz:=XBA (Av4 AY)
def IBj:Avb:=fy u1 zl AEf E8 [] Tryz.func42 HBj o7 XBA Av4
inductive DAg where
 |c0 (a:(List D8)) (b:Int)
 |c1 (a:(List D8)) (b d:Int)
def JBj:DAg->Avm
 |.c0 a b=>(tdo Tryz.f43 208,[vr 0 48 a,vi 3 b],[])
 |.c1 a b d=>(tdo Tryz.f43 13456,[vr 0 48 a,vi 3 b,vi 4 d],[])
def YBA (k:Aw7 DAg Bool):Uz:=fun a=>k (.c0 a 0)
def o8 (k:Aw7 DAg Bool):Aw7 DAg Bool
 |.c0 b a=>mk (cond (Av9 a b.length) (k (.c1 b a 0)) (some true))
 |.c1 a b c=>mk (cond (KZ c b) (cond (Aw0 b a) (cond (Aw0 c a) (cond ((OQ a b).Ag == (OQ a c).Ag) (cond (Aw0 b a) (cond (Aw0 c a) (cond (Av2 (OQ a b).Dv (OQ a c).Dv) (some false) (k (.c1 a b (NM c)))) none) none) (k (.c1 a b (NM c)))) none) none) (k (.c0 a (NM b))))
def AxS:AzH DAg Bool
 |0,_=>none
 |m+1,s=>o8 (AxS m) s
def zn:Uz:=YBA (AxS AY)
def KBj:Avb:=fy u1 zn AEf E8 [] Tryz.func43 JBj o8 YBA AxS
def ZBA (f:Avp) (g:Zp) (e:WS) (h:Tz):SQ:=fun a=>mk (f.bind fun d=>(g d a.CO).bind fun b=>Axg (!b.2) (some false) (Axg (Ayd a) (O8 (e b.1 (X6 a))) ((h (AyU a) a.AX.Bc).bind fun c=>Axg c.2.2 (O8 (e b.1 c.1)) (some false))))
def zo:SQ:=ZBA Axn zO oC fC
def LBj:Avb:=BI u1 zo AEg E8 [iZ,HBI,GBI,GA3] Tryz.func21 ZBA
inductive GAg where
 |c0 (a:(List Ah)) (b:Int) (d:AA) (e f:Int) (g:AA) (h:Int) (i:(List Af))
 |c1 (a:(List Ah)) (b j:Int) (d:AA) (e f:Int) (g:AA) (h:Int) (l:AA) (n o:Int) (p:AA) (q:Int) (i t:(List Af))
def MBj:GAg->Avm
 |.c0 a b d e f g h i=>(tdo Tryz.f23 464,[vr 0 78 a,vp 3 192,vi 4 b],[(192,.var [.str d,li e,.own 1012290,li f,.str g,li h]),(1012290,.sl 76 i)])
 |.c1 a b j d e f g h l n o p q i t=>(tdo Tryz.f23 238800,[vr 0 78 a,vp 3 192,vi 4 b,vp 5 320,vi 7 j],[(192,.var [.str d,li e,.own 1012290,li f,.str g,li h]),(320,.var [.str l,li n,.own 1020482,li o,.str p,li q]),(1012290,.sl 76 i),(1020482,.sl 76 t)])
def AKz (b:Avp) (d:AxE) (e:Qk) (k:Aw7 GAg Bool):Zq:=fun c=>mk (b.bind fun a=>k (.c0 c 0 a.Bv (Ax5 a) a.BM (Tc a) a.fCount (Awf a)))
def jw (a:Avp) (b:AxE) (c:Qk) (k:Aw7 GAg Bool):Aw7 GAg Bool
 |.c0 f e g h j l m i=>mk (cond (Av9 e f.length) (cond (QF e f) ((b ⟨g,h,i,j,l,m⟩ (GR f e Awp ⟨0,0,false,false,false,false,Awp,0⟩)).bind fun d=>cond (!d.2) (some false) (k (.c1 f e 0 g h j l m d.1.Bv (Ax5 d.1) d.1.BM (Tc d.1) d.1.fCount i (Awf d.1)))) none) (some true))
 |.c1 n o d p q r s t g h j l m e i=>mk (cond (Av9 d e.length) (cond (Fa d e.length) ((c ⟨g,h,i,j,l,m⟩ (Eb e d ⟨0,0,false,false,false,false,Awp,0⟩).fId).bind fun f=>cond f.2 (cond ((Nb (Eb e d ⟨0,0,false,false,false,false,Awp,0⟩)) != (Nb f.1)) (some false) (cond (!(Aww (Oc (Eb e d ⟨0,0,false,false,false,false,Awp,0⟩)) (Oc f.1))) (some false) (cond (AzT (Eb e d ⟨0,0,false,false,false,false,Awp,0⟩)) (cond (!(AzT f.1)) (some false) (cond (Awk (Eb e d ⟨0,0,false,false,false,false,Awp,0⟩)) (cond (!(Awk f.1)) (some false) (cond (X7 f e d ⟨0,0,false,false,false,false,Awp,0⟩) (some false) (k (.c1 n o (NM d) p q r s t g h j l m e i)))) (cond (X7 f e d ⟨0,0,false,false,false,false,Awp,0⟩) (some false) (k (.c1 n o (NM d) p q r s t g h j l m e i))))) (cond (Awk (Eb e d ⟨0,0,false,false,false,false,Awp,0⟩)) (cond (!(Awk f.1)) (some false) (cond (X7 f e d ⟨0,0,false,false,false,false,Awp,0⟩) (some false) (k (.c1 n o (NM d) p q r s t g h j l m e i)))) (cond (X7 f e d ⟨0,0,false,false,false,false,Awp,0⟩) (some false) (k (.c1 n o (NM d) p q r s t g h j l m e i))))))) (k (.c1 n o (NM d) p q r s t g h j l m e i))) none) (k (.c0 n (NM o) g h j l m i)))
def AyB:AzH GAg Bool
 |0,_=>none
 |m+1,s=>jw Axn Rq TU (AyB m) s
def wz:Zq:=AKz Axn Rq TU (AyB AY)
def NBj:Avb:=fy u1 wz AU6 E8 [iZ,LAk,uG] Tryz.func23 MBj jw AKz AyB
inductive IAg where
 |c0 (a:Int) (b:Bg)
def OBj:IAg->Avm
 |.c0 b a=>(tdo Tryz.f18 208,[vp 1 64,vi 3 b],[(64,.var [.str a.AX.BO,.bool a.AX.CZ,.BG 90 a.AX.Bc.Ak,.str a.AX.AU.Bv,li a.AX.AU.DU,.BG 76 a.AX.AU.AZ,li a.AX.AU.BM,.str a.AX.AU.Dh,li a.AX.AU.fCount,.BG 127 a.AX.BP,.BG 157 a.AX.BD,li a.AX.CW,.BG 3 a.Bq,.BG 9 a.EN,.BG 48 a.Cm,.BG 78 a.CO])])
def BBB (b:Zo) (c d:Uz) (e:SQ) (f:Zq) (g:Qn) (k:Aw7 IAg Bool):SQ:=fun a=>k (.c0 0 a)
def JAr (a:Zo) (b c:Uz) (d:SQ) (e:Zq) (f:Qn) (k:Aw7 IAg Bool):Aw7 IAg Bool
 |.c0 h g=>mk (cond (Av9 h (F9 g).length) (cond (Aw0 h (F9 g)) (cond (Aw0 h (F9 g)) ((a g.CO ((F9 g).getD (Axd h) (⟨0,0,0⟩:D8)).Ag).bind fun i=>cond (Avi ((F9 g).getD (Axd h) (⟨0,0,0⟩:D8)).Dv i) (some false) (k (.c0 (NM h) g))) none) none) (Awc (b (F9 g)) (Awc (c (F9 g)) (Awc (d g) (Awc (e g.CO) (O8 (f g.AX)) (some false)) (some false)) (some false)) (some false)))
def jy:AzH IAg Bool
 |0,_=>none
 |m+1,s=>JAr zk zl zn zo wz oI (jy m) s
def KAr:SQ:=BBB zk zl zn zo wz oI (jy AY)
def PBj:Avb:=fy u1 KAr AEg E8 [GBj,IBj,KBj,LBj,NBj,IBI] Tryz.func18 OBj JAr BBB jy
def CBB (g:XAU) (h:NAv) (i j:GAV) (l:YAv) (m:ZAv) (n:ASW) (o p:SQ):XAU:=fun q=>mk (Awc (g ()) (some true) ((h ()).bind fun b=>(i b.1 b.2.1 b.2.2).bind fun a=>(j b.1 b.2.1 b.2.2).bind fun c=>Axg (!a.2) (some false) ((l a.1.Bq c.1.Bq).bind fun d=>Axg (!d) (some false) ((m (He a.1) (He c.1)).bind fun e=>Axg (!e) (some false) ((n a.1.CO c.1.CO).bind fun f=>Axg (!f) (some false) (Axg (((F9 a.1).length:Int) != ((F9 c.1).length:Int)) (some false) (Axg ((Aw3 a.1.Bq) != (b.2.2.length:Int)) (some false) (Awc (o a.1) (O8 (p a.1)) (some false)))))))))
def AEZ:XAU:=CBB OAw IAn xC kD YAq AGq CAr HAr KAr
theorem AdP:Q8 ctx PP 4 wY E8 (u1 AEZ):=ty0 u1 AEZ wY E8 [HBV,QBb,FBi,LBi,NBi,PBi,RBi,EBj,PBj] Tryz.func4 CBB
end
end Go.Proofs.YtkbbicgglblfiaaGreatDoor.G
