/- Memory under other numbers. -/
import Derived.Test.YtaalgheapdmjnaaGreatDoorSnd18
namespace Go.Ev
set_option linter.unusedVariables false
set_option linter.unusedSimpArgs false
open Go
section
variable {C:Ctx} {P:Program} {hp hp2:Hp C} {AB at2:At} {w w':World} {Af:Nat->Prop} {w0:World} {Ec:Nat->Nat->Prop} {n:Nat} {env:Env C} {a:Act}
def ApR (C:Ctx) (hp hp2:Hp C) (AB at2:At) (w:World):AvK C.El->AvK C.El->Prop
 | .var cs,.var cs2=>cs2.length=cs.length/\∀ (j:Nat) (l l2:L C.El),cs[j]?=some l->cs2[j]?=some l2->∀ v,KA C hp AB w (BD C hp AB w) l v->KA C hp2 at2 w (BD C hp2 at2 w) l2 v
 | .sl e xs,o=>o=.sl e xs
 | .io e xs,o=>o=.io e xs
 | .ar e xs,o=>o=.ar e xs
 | _,.dead=>True
 | _,_=>False
theorem Sm {id:Nat} (h:live C hp id):look hp id .dead≠.dead:=by grind [live]
theorem AsV {id:Nat} (h:look hp id .dead≠.dead):live C hp id:=by simp [live]
theorem Mem.ren (m:Mem C w0 Ec hp AB Af w) (src:Nat->Nat) (h1:∀ i,live C hp2 i->live C hp (src i)/\at2 i=AB (src i)/\ApR C hp hp2 AB at2 w (look hp (src i) .dead) (look hp2 i .dead))
  (h2:∀ i j,live C hp2 i->live C hp2 j->src i=src j->i=j):Mem C w0 Ec hp2 at2 Af w/\(∀ b,BD C hp AB w b->BD C hp2 at2 w b):=by
 have hwr:∀ b,wr C hp2 at2 b->wr C hp AB b:=fun b ⟨i,off,hl,ha⟩=>⟨src i,off,(h1 i hl).1,by simp_all⟩
 have hro:∀ b,BD C hp AB w b->BD C hp2 at2 w b:=fun b hb=>⟨hb.1,fun hw=>hb.2 (hwr b hw)⟩
 refine ⟨⟨fun i=>?_,fun i j b off off' hi hj ha hb=>?_,fun i b off hl ha=>?_,fun i b off hl ha hb=>?_,fun b hb=>?_,m.frame⟩,hro⟩
 ·by_cases hl:live C hp2 i
  ·obtain ⟨g1,g2,g3⟩:=h1 i hl
   have ho:=m.obj (src i);unfold OA at ho ⊢;rw [g2];generalize look hp (src i) .dead=o1 at ho g3;generalize look hp2 i .dead=o2 at g3;cases o1 with
   | var cs=>
    cases o2 with
    | var cs2=>
     obtain ⟨hlen,hrel⟩:=g3
     obtain ⟨b,off,ha,hc⟩:=ho
     refine ⟨b,off,ha,fun j l2 hj=>?_⟩;grind
    | dead=>trivial
    | _=>exact g3.elim
   | sl e xs=>have g3:o2=_:=g3;simp_all
   | io e xs=>have g3:o2=_:=g3;simp_all
   | ar e xs=>have g3:o2=_:=g3;simp_all
   | dead=>cases o2 <;> first | trivial | exact g3.elim
  grind [OA,AsV]
 ·obtain ⟨g1,g2,_⟩:=h1 i hi
  obtain ⟨g3,g4,_⟩:=h1 j hj
  exact h2 i j hi hj (m.dist _ _ b off off' g1 g3 (by simp_all) (by simp_all))
 ·obtain ⟨g1,g2,_⟩:=h1 i hl
  exact m.lt _ b off g1 (by simp_all)
 ·obtain ⟨g1,g2,g3⟩:=h1 i hl
  obtain ⟨g4,g5⟩:=m.old _ b off g1 (by simp_all) hb
  refine ⟨g4,?_⟩;generalize look hp (src i) .dead=o1 at g5 g3;generalize look hp2 i .dead=o2 at g3;cases o1 with
  | var cs=>
   cases o2 with
   | var cs2=>obtain ⟨hlen,_⟩:=g3;simp_all [UN]
   | dead=>trivial
   | _=>exact g3.elim
  | sl e xs=>have g3:o2=_:=g3;simp_all
  | io e xs=>have g3:o2=_:=g3;simp_all
  | ar e xs=>have g3:o2=_:=g3;simp_all
  | dead=>cases o2 <;> first | trivial | exact g3.elim
 ·obtain ⟨g1,g2,g3⟩:=m.Af b hb
  grind
theorem ApS {id id2:Nat} {ro ro':Nat->Prop} {v:Value} (h:KA C hp AB w ro (.own id) v) (hl:look hp2 id2 .dead=fP C (look hp id .dead)) (ha:at2 id2=AB id) (hb:Ba hp2 id2=true):KA C hp2 at2 w ro' (.own id2) v:=by
 obtain ⟨g1,_,g3⟩:=h
 refine ⟨g1,hb,?_⟩;rw [hl,ha];revert g3;cases look hp id .dead <;> simp [fP]
theorem ApT {id id2 off len:Nat} {ro ro':Nat->Prop} {v:Value} (h:KA C hp AB w ro (.sub id off len) v) (hl:look hp2 id2 .dead=fP C (look hp id .dead)) (ha:at2 id2=AB id) (hb:Ba hp2 id2=true):KA C hp2 at2 w ro' (.sub id2 off len) v:=by
 obtain ⟨g1,_,g3⟩:=h
 refine ⟨g1,hb,?_⟩;rw [hl,ha];revert g3;cases look hp id .dead <;> simp [fP]
theorem ApU {id:Nat} {ro ro':Nat->Prop} {v:Value} (h:KA C hp AB w ro (.own id) v) (hl:look hp2 id .dead=look hp id .dead\/∃ cs,look hp2 id .dead=.var cs) (ha:at2 id=AB id) (hb:Ba hp2 id=true):KA C hp2 at2 w ro' (.own id) v:=by
 obtain ⟨g1,_,g3⟩:=h
 refine ⟨g1,hb,?_⟩;grind
theorem ApV {id off len:Nat} {ro ro':Nat->Prop} {v:Value} (h:KA C hp AB w ro (.sub id off len) v) (hl:look hp2 id .dead=look hp id .dead\/∃ cs,look hp2 id .dead=.var cs) (ha:at2 id=AB id) (hb:Ba hp2 id=true):KA C hp2 at2 w ro' (.sub id off len) v:=by
 obtain ⟨g1,_,g3⟩:=h
 refine ⟨g1,hb,?_⟩;grind
theorem fE {i:Nat}:∀ {l:List Nat},inB i l=true↔i ∈ l:=by
 intro l;induction l with
 | nil=>simp [inB]
 | cons j l ih=>
  simp only [inB];split;·simp_all
  ·rename_i h;have hne:i≠j:=fun e=>by simp_all
   simp_all
theorem qj:∀ {l:List Nat},nodupB l=true->l.Nodup:=by intro l;induction l<;>grind [nodupB,fE]
theorem AY0 {α:Type} {l:List (Nat×α)} {i:Nat} {d:α} (h:∀ p ∈ l,p.1≠i):look l i d=d:=by induction l<;>grind [EL,look]
theorem OB {α:Type} {l:List (Nat×α)} {i:Nat} {x d:α} (hn:(l.map (·.1)).Nodup) (h:(i,x) ∈ l):look l i d=x:=by
 induction l with
 | nil=>simp at h
 | cons p l ih=>
  obtain ⟨j,y⟩:=p
  rw [List.map_cons,List.nodup_cons] at hn;rcases List.mem_cons.1 h with e | hm
  ·simp_all [look]
  grind [EL,look]
theorem ZG {α:Type} {l:List (Nat×α)} {i:Nat} {x:α} (h:(i,x) ∈ l):Ba l i=true:=by
 induction l with
 | nil=>simp at h
 | cons p l ih=>
  obtain ⟨j,y⟩:=p
  simp only [Ba];split;·rfl
  ·rename_i hb;rcases List.mem_cons.1 h with e | hm
   all_goals simp_all
theorem Arw {α:Type} {l:List (Nat×α)} {i:Nat} (h:Ba l i=true):∃ x,(i,x) ∈ l:=by induction l<;>grind [Ba,EL]
theorem fD {α:Type} {l:List (Nat×α)} {i:Nat} {d x:α} (h:look l i d=x) (hne:x≠d):(i,x) ∈ l:=by induction l<;>grind [look,EL]
theorem ApW {l l':List Nat} (h:(l++l').Nodup):l'.Nodup:=(List.nodup_append.1 h).2.1
theorem St.cut (st:St C w0 Ec n env hp AB Af a w) (ks vs:List Nat) (ren:List (Nat×Nat)) (hk1:nodupB (vs++ren.map fun r=>r.1)=true) (hk2:nodupB (vs++ren.map fun r=>r.2)=true) (hbv:∀ v ∈ vs,Ba hp v=true->True) :
  ∃ at2,St C w0 Ec n (rO C ks vs ren env) (Jo C vs ren hp) at2 Af a w/\∀ v,v ∈ vs->Ba (Jo C vs ren hp) v=true/\at2 v=AB v:=by
 have n1:=qj hk1;have n2:=qj hk2;let src:Nat->Nat:=fun i=>if i ∈ vs then i else look (ren.map fun r=>(r.2,r.1)) i 0
 let at2:At:=fun i=>AB (src i)
 have keys:((Jo C vs ren hp).map (·.1))=vs++ren.map (fun r=>r.2):=by simp [Jo,Function.comp_def]
 have Fi:∀ i,i ∈ vs->src i=i:=fun i hi=>by grind
 have qx:∀ p,p ∈ ren->src p.2=p.1:=fun p hp'=>by
  have hnot:p.2 ∉ vs:=fun hm=>by grind
  simp only [src,if_neg hnot];refine OB ?_ (List.mem_map.2 ⟨p,hp',rfl⟩);grind
 have Fl:∀ p,p ∈ ren->((p.2,fP C (look hp p.1 .dead)):Nat×AvK C.El) ∈ Jo C vs ren hp:=fun p hp'=>by grind [Jo]
 have Da:∀ p,p ∈ ren->look (Jo C vs ren hp) p.2 .dead=fP C (look hp p.1 .dead):=fun p hp'=>OB (by simp_all) (Fl p hp')
 have E4:∀ v,v ∈ vs->look (Jo C vs ren hp) v .dead=(match look hp v .dead with | .var cs=>.var (cs.map (ZH C vs ren)) | o=>o):=fun v hv=>OB (by simp_all) (by
  grind [Jo])
 have inv:∀ i,live C (Jo C vs ren hp) i->i ∈ vs\/∃ p,p ∈ ren/\p.2=i:=fun i hl=>by have hm:=fD (d:=AvK.dead) rfl (Sm hl);grind [Jo]
 have Bm:∀ b,BD C hp AB w b->BD C (Jo C vs ren hp) at2 w b:=fun b hb=>⟨hb.1,fun ⟨i,off,hl,ha⟩=>hb.2 ⟨src i,off,by
  rcases inv i hl with hv | ⟨p,h1,h2⟩
  ·grind [AsV,Sm]
  ·subst h2;rw [qx p h1];exact AsV (fun e=>Sm hl (by rw [Da p h1,e];rfl)),ha⟩⟩
 have C1:∀ v,v ∈ vs->Ba (Jo C vs ren hp) v=true:=fun v hv=>by simp only [Jo];exact ZG (List.mem_append_left _ (List.mem_map.2 ⟨v,hv,rfl⟩))
 have Gr:∀ v,v ∈ vs->look (Jo C vs ren hp) v .dead=look hp v .dead\/∃ cs,look (Jo C vs ren hp) v .dead=.var cs:=fun v hv=>by grind
 have cell:∀ (l:L C.El) (v:Value),KA C hp AB w (BD C hp AB w) l v->KA C (Jo C vs ren hp) at2 w (BD C (Jo C vs ren hp) at2 w) (ZH C vs ren l) v:=by
  intro l v h;cases l with
  | own id=>
   simp only [ZH];split;·grind [fE,ApU]
   cases hb:Ba ren id with
   | false=>exact h.1
   | true=>
    obtain ⟨x,hx⟩:=Arw hb
    grind [OB,ApS,ZG]
  | sub id off len=>
   simp only [ZH];split;·grind [fE,ApV]
   cases hb:Ba ren id with
   | false=>trivial
   | true=>
    obtain ⟨x,hx⟩:=Arw hb
    grind [OB,ApT,ZG]
  | ptr id off=>
   simp only [ZH];cases hb:inB id vs with
   | false=>trivial
   | true=>
    have hv:=fE.1 hb;obtain ⟨_,b,o',ha,hvv⟩:=h
    exact ⟨C1 id hv,b,o',by grind,hvv⟩
  | JM id i off=>trivial
  | BH e xs=>exact Rep.mono h Bm
  | OY e x off=>
   obtain ⟨b,o',V,hv,hb,hV⟩:=h
   exact ⟨b,o',V,hv,Bm b hb,fun i l hl=>⟨(hV i l hl).1,(hV i l hl).2.mono Bm⟩⟩
  | int k n=>exact h
  | bool b=>exact h
  | str s=>exact h
  | MZ e xs=>exact h
  | Iy=>exact h
  | OZ g i=>exact h
  | Ji=>exact h
  | RQ i=>exact h
  | Vb=>exact h
  | fn f=>exact h
  | any=>exact h
  | junk=>trivial
 obtain ⟨m2,hro⟩:=Mem.ren (hp2:=Jo C vs ren hp) (at2:=at2) st.mem src (fun i hl=>by
  rcases inv i hl with hv | ⟨p,h1,h2⟩
  ·have hlv:=E4 i hv;rw [Fi i hv];refine ⟨AsV (fun e=>Sm hl (by simp_all)),by grind,?_⟩;rw [hlv];cases look hp i .dead with
   | var cs=>exact ⟨by simp,fun j l l2 h1 h2 v hr=>by
     grind⟩
   | sl e xs=>rfl
   | io e xs=>rfl
   | ar e xs=>rfl
   | dead=>trivial
  ·subst h2;have hlr:=Da p h1;rw [qx p h1];refine ⟨AsV (fun e=>Sm hl (by rw [hlr,e];rfl)),by grind,?_⟩;rw [hlr];cases look hp p.1 .dead <;> first | rfl | trivial)
  (fun i j hi hj he=>by
   have dj:∀ v,v ∈ vs->∀ p,p ∈ ren->v≠p.1:=fun v hv p hp'=>(List.nodup_append.1 n1).2.2 v hv p.1 (List.mem_map.2 ⟨p,hp',rfl⟩)
   rcases inv i hi with hv | ⟨p,h1,rfl⟩ <;> rcases inv j hj with hv' | ⟨q,h2,rfl⟩
   ·simp_all
   ·grind
   ·grind
   ·rw [qx p h1,qx q h2] at he;have:=ApW n1;have e1:look ren p.1 0=p.2:=OB this h1;grind [OB])
 refine ⟨at2,⟨m2,st.size,st.defers,fun t=>?_⟩,fun v hv=>⟨C1 v hv,by grind⟩⟩;by_cases ht:t ∈ ks
 ·have hlk:look (rO C ks vs ren env) t [.one .junk]=(look env t [.one .junk]).map (AHs C vs ren):=by
   unfold rO;clear inv Bm C1 cell;induction ks with
   | nil=>simp at ht
   | cons k ks ih=>
    simp only [List.map_cons,look];cases hb:Nat.beq t k with
    | true=>simp_all
    | false=>
     rcases List.mem_cons.1 ht with e | hm
     all_goals simp_all
  rw [hlk];have h:=st.env t;generalize look env t [.one .junk]=us at h;have hU:∀ (u:U C.El) (v:Value),Aun C hp AB w (BD C hp AB w) u v->Aun C (Jo C vs ren hp) at2 w (BD C (Jo C vs ren hp) at2 w) (AHs C vs ren u) v:=by
   intro u v h;cases u with
   | one l=>exact cell l v h
   | agg cs=>
    obtain ⟨arr,rfl,h1,h2⟩:=h
    refine ⟨arr,rfl,by simp_all,fun i l hl=>?_⟩;grind
   | arr e xs=>exact h
  match us,h with
  | [u],h=>exact hU u _ h
  | [],⟨arr,h1,h2,h3⟩=>exact ⟨arr,h1,h2,fun i u hu=>by simp at hu⟩
  | u1::u2::us,⟨arr,h1,h2,h3⟩=>
   refine ⟨arr,h1,by grind,fun i u hu=>?_⟩;have hu:((u1::u2::us).map (AHs C vs ren))[i]?=some u:=hu;grind
 ·have hlk:look (rO C ks vs ren env) t [.one .junk]=[.one .junk]:=AY0 (fun p hp'=>by
   obtain ⟨k,hk,rfl⟩:=List.mem_map.1 hp'
   grind)
  rw [hlk];trivial
end
end Go.Ev
