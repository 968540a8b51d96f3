/- Memory under other numbers. -/
import Derived.Test.YtkbbicgglblfiaaGreatDoorSnd18
namespace Go.Ev
set_option linter.unusedVariables false
set_option linter.unusedSimpArgs false
open Go
section
variable {C:Ctx} {P:Program} {hp hp2:Hp C} {AB at2:At} {w w':World} {Ai:Nat->Prop} {w0:World} {Avn:Nat->Nat->Prop} {n:Nat} {env:Env C} {a:Act}
def Aty (C:Ctx) (hp hp2:Hp C) (AB at2:At) (w:World):AxP C.El->AxP C.El->Prop
 | .var cs,.var cs2=>cs2.length=cs.length/\∀ (j:Nat) (l l2:L C.El),cs[j]?=some l->cs2[j]?=some l2->∀ v,KA C hp AB w (BK C hp AB w) l v->KA C hp2 at2 w (BK C hp2 at2 w) l2 v
 | .sl e xs,o=>o=.sl e xs
 | .io e xs,o=>o=.io e xs
 | .ar e xs,o=>o=.ar e xs
 | _,.dead=>True
 | _,_=>False
theorem UN {id:Nat} (h:live C hp id):look hp id .dead≠.dead:=by grind [live]
theorem Avg {id:Nat} (h:look hp id .dead≠.dead):live C hp id:=by simp [live]
theorem Mem.ren (m:Mem C w0 Avn hp AB Ai w) (src:Nat->Nat) (h1:∀ i,live C hp2 i->live C hp (src i)/\at2 i=AB (src i)/\Aty C hp hp2 AB at2 w (look hp (src i) .dead) (look hp2 i .dead))
  (h2:∀ i j,live C hp2 i->live C hp2 j->src i=src j->i=j):Mem C w0 Avn hp2 at2 Ai w/\(∀ b,BK C hp AB w b->BK C hp2 at2 w b):=by
 have hwr:∀ b,wr C hp2 at2 b->wr C hp AB b:=fun b ⟨i,off,hl,ha⟩=>⟨src i,off,(h1 i hl).1,by simp_all⟩
 have hro:∀ b,BK C hp AB w b->BK C hp2 at2 w b:=fun b hb=>⟨hb.1,fun hw=>hb.2 (hwr b hw)⟩
 refine ⟨⟨fun i=>?_,fun i j b off off' hi hj ha hb=>?_,fun i b off hl ha=>?_,fun i b off hl ha hb=>?_,fun b hb=>?_,m.frame⟩,hro⟩
 ·by_cases hl:live C hp2 i
  ·obtain ⟨g1,g2,g3⟩:=h1 i hl
   have ho:=m.obj (src i);unfold OA at ho ⊢;rw [g2];generalize look hp (src i) .dead=o1 at ho g3;generalize look hp2 i .dead=o2 at g3;cases o1 with
   | var cs=>
    cases o2 with
    | var cs2=>
     obtain ⟨hlen,hrel⟩:=g3
     obtain ⟨b,off,ha,hc⟩:=ho
     refine ⟨b,off,ha,fun j l2 hj=>?_⟩;grind
    | dead=>trivial
    | _=>exact g3.elim
   | sl e xs=>have g3:o2=_:=g3;simp_all
   | io e xs=>have g3:o2=_:=g3;simp_all
   | ar e xs=>have g3:o2=_:=g3;simp_all
   | dead=>cases o2 <;> first | trivial | exact g3.elim
  grind [OA,Avg]
 ·obtain ⟨g1,g2,_⟩:=h1 i hi
  obtain ⟨g3,g4,_⟩:=h1 j hj
  exact h2 i j hi hj (m.dist _ _ b off off' g1 g3 (by simp_all) (by simp_all))
 ·obtain ⟨g1,g2,_⟩:=h1 i hl
  exact m.lt _ b off g1 (by simp_all)
 ·obtain ⟨g1,g2,g3⟩:=h1 i hl
  obtain ⟨g4,g5⟩:=m.old _ b off g1 (by simp_all) hb
  refine ⟨g4,?_⟩;generalize look hp (src i) .dead=o1 at g5 g3;generalize look hp2 i .dead=o2 at g3;cases o1 with
  | var cs=>
   cases o2 with
   | var cs2=>obtain ⟨hlen,_⟩:=g3;simp_all [VR]
   | dead=>trivial
   | _=>exact g3.elim
  | sl e xs=>have g3:o2=_:=g3;simp_all
  | io e xs=>have g3:o2=_:=g3;simp_all
  | ar e xs=>have g3:o2=_:=g3;simp_all
  | dead=>cases o2 <;> first | trivial | exact g3.elim
 ·obtain ⟨g1,g2,g3⟩:=m.Ai b hb
  grind
theorem Atz {id id2:Nat} {ro ro':Nat->Prop} {v:Value} (h:KA C hp AB w ro (.own id) v) (hl:look hp2 id2 .dead=je C (look hp id .dead)) (ha:at2 id2=AB id) (hb:Bj hp2 id2=true):KA C hp2 at2 w ro' (.own id2) v:=by
 obtain ⟨g1,_,g3⟩:=h
 refine ⟨g1,hb,?_⟩;rw [hl,ha];revert g3;cases look hp id .dead <;> simp [je]
theorem At1 {id id2 off len:Nat} {ro ro':Nat->Prop} {v:Value} (h:KA C hp AB w ro (.sub id off len) v) (hl:look hp2 id2 .dead=je C (look hp id .dead)) (ha:at2 id2=AB id) (hb:Bj hp2 id2=true):KA C hp2 at2 w ro' (.sub id2 off len) v:=by
 obtain ⟨g1,_,g3⟩:=h
 refine ⟨g1,hb,?_⟩;rw [hl,ha];revert g3;cases look hp id .dead <;> simp [je]
theorem At3 {id:Nat} {ro ro':Nat->Prop} {v:Value} (h:KA C hp AB w ro (.own id) v) (hl:look hp2 id .dead=look hp id .dead\/∃ cs,look hp2 id .dead=.var cs) (ha:at2 id=AB id) (hb:Bj hp2 id=true):KA C hp2 at2 w ro' (.own id) v:=by
 obtain ⟨g1,_,g3⟩:=h
 refine ⟨g1,hb,?_⟩;grind
theorem At4 {id off len:Nat} {ro ro':Nat->Prop} {v:Value} (h:KA C hp AB w ro (.sub id off len) v) (hl:look hp2 id .dead=look hp id .dead\/∃ cs,look hp2 id .dead=.var cs) (ha:at2 id=AB id) (hb:Bj hp2 id=true):KA C hp2 at2 w ro' (.sub id off len) v:=by
 obtain ⟨g1,_,g3⟩:=h
 refine ⟨g1,hb,?_⟩;grind
theorem jU {i:Nat}:∀ {l:List Nat},inB i l=true↔i ∈ l:=by
 intro l;induction l with
 | nil=>simp [inB]
 | cons j l ih=>
  simp only [inB];split;·simp_all
  ·rename_i h;have hne:i≠j:=fun e=>by simp_all
   simp_all
theorem vT:∀ {l:List Nat},nodupB l=true->l.Nodup:=by intro l;induction l<;>grind [nodupB,jU]
theorem AcP {α:Type} {l:List (Nat×α)} {i:Nat} {d:α} (h:∀ p ∈ l,p.1≠i):look l i d=d:=by induction l<;>grind [Ea,look]
theorem AxF {α:Type} {l:List (Nat×α)} {i:Nat} {x d:α} (hn:(l.map (·.1)).Nodup) (h:(i,x) ∈ l):look l i d=x:=by
 induction l with
 | nil=>simp at h
 | cons p l ih=>
  obtain ⟨j,y⟩:=p
  rw [List.map_cons,List.nodup_cons] at hn;rcases List.mem_cons.1 h with e | hm
  ·simp_all [look]
  grind [Ea,look]
theorem ak {α:Type} {l:List (Nat×α)} {i:Nat} {x:α} (h:(i,x) ∈ l):Bj l i=true:=by
 induction l with
 | nil=>simp at h
 | cons p l ih=>
  obtain ⟨j,y⟩:=p
  simp only [Bj];split;·rfl
  ·rename_i hb;rcases List.mem_cons.1 h with e | hm
   all_goals simp_all
theorem Ayk {α:Type} {l:List (Nat×α)} {i:Nat} (h:Bj l i=true):∃ x,(i,x) ∈ l:=by induction l<;>grind [Bj,Ea]
theorem jT {α:Type} {l:List (Nat×α)} {i:Nat} {d x:α} (h:look l i d=x) (hne:x≠d):(i,x) ∈ l:=by induction l<;>grind [look,Ea]
theorem At5 {l l':List Nat} (h:(l++l').Nodup):l'.Nodup:=(List.nodup_append.1 h).2.1
theorem St.cut (st:St C w0 Avn n env hp AB Ai a w) (ks vs:List Nat) (ren:List (Nat×Nat)) (hk1:nodupB (vs++ren.map fun r=>r.1)=true) (hk2:nodupB (vs++ren.map fun r=>r.2)=true) (hbv:∀ v ∈ vs,Bj hp v=true->True) :
  ∃ at2,St C w0 Avn n (wK C ks vs ren env) (KH C vs ren hp) at2 Ai a w/\∀ v,v ∈ vs->Bj (KH C vs ren hp) v=true/\at2 v=AB v:=by
 have n1:=vT hk1;have n2:=vT hk2;let src:Nat->Nat:=fun i=>if i ∈ vs then i else look (ren.map fun r=>(r.2,r.1)) i 0
 let at2:At:=fun i=>AB (src i)
 have keys:((KH C vs ren hp).map (·.1))=vs++ren.map (fun r=>r.2):=by simp [KH,Function.comp_def]
 have Fs:∀ i,i ∈ vs->src i=i:=fun i hi=>by grind
 have vZ:∀ p,p ∈ ren->src p.2=p.1:=fun p hp'=>by
  have hnot:p.2 ∉ vs:=fun hm=>by grind
  simp only [src,if_neg hnot];refine AxF ?_ (List.mem_map.2 ⟨p,hp',rfl⟩);grind
 have Ft:∀ p,p ∈ ren->((p.2,je C (look hp p.1 .dead)):Nat×AxP C.El) ∈ KH C vs ren hp:=fun p hp'=>by grind [KH]
 have Dm:∀ p,p ∈ ren->look (KH C vs ren hp) p.2 .dead=je C (look hp p.1 .dead):=fun p hp'=>AxF (by simp_all) (Ft p hp')
 have FJ:∀ v,v ∈ vs->look (KH C vs ren hp) v .dead=(match look hp v .dead with | .var cs=>.var (cs.map (au C vs ren)) | o=>o):=fun v hv=>AxF (by simp_all) (by
  grind [KH])
 have inv:∀ i,live C (KH C vs ren hp) i->i ∈ vs\/∃ p,p ∈ ren/\p.2=i:=fun i hl=>by have hm:=jT (d:=AxP.dead) rfl (UN hl);grind [KH]
 have Bn:∀ b,BK C hp AB w b->BK C (KH C vs ren hp) at2 w b:=fun b hb=>⟨hb.1,fun ⟨i,off,hl,ha⟩=>hb.2 ⟨src i,off,by
  rcases inv i hl with hv | ⟨p,h1,h2⟩
  ·grind [Avg,UN]
  ·subst h2;rw [vZ p h1];exact Avg (fun e=>UN hl (by rw [Dm p h1,e];rfl)),ha⟩⟩
 have C6:∀ v,v ∈ vs->Bj (KH C vs ren hp) v=true:=fun v hv=>by simp only [KH];exact ak (List.mem_append_left _ (List.mem_map.2 ⟨v,hv,rfl⟩))
 have G4:∀ v,v ∈ vs->look (KH C vs ren hp) v .dead=look hp v .dead\/∃ cs,look (KH C vs ren hp) v .dead=.var cs:=fun v hv=>by grind
 have cell:∀ (l:L C.El) (v:Value),KA C hp AB w (BK C hp AB w) l v->KA C (KH C vs ren hp) at2 w (BK C (KH C vs ren hp) at2 w) (au C vs ren l) v:=by
  intro l v h;cases l with
  | own id=>
   simp only [au];split;·grind [jU,At3]
   cases hb:Bj ren id with
   | false=>exact h.1
   | true=>
    obtain ⟨x,hx⟩:=Ayk hb
    grind [AxF,Atz,ak]
  | sub id off len=>
   simp only [au];split;·grind [jU,At4]
   cases hb:Bj ren id with
   | false=>trivial
   | true=>
    obtain ⟨x,hx⟩:=Ayk hb
    grind [AxF,At1,ak]
  | ptr id off=>
   simp only [au];cases hb:inB id vs with
   | false=>trivial
   | true=>
    have hv:=jU.1 hb;obtain ⟨_,b,o',ha,hvv⟩:=h
    exact ⟨C6 id hv,b,o',by grind,hvv⟩
  | Ji id i off=>trivial
  | BG e xs=>exact Rep.mono h Bn
  | PW e x off=>
   obtain ⟨b,o',V,hv,hb,hV⟩:=h
   exact ⟨b,o',V,hv,Bn b hb,fun i l hl=>⟨(hV i l hl).1,(hV i l hl).2.mono Bn⟩⟩
  | int k n=>exact h
  | bool b=>exact h
  | str s=>exact h
  | Ns e xs=>exact h
  | JI=>exact h
  | PX g i=>exact h
  | J4=>exact h
  | TA i=>exact h
  | Wq=>exact h
  | fn f=>exact h
  | any=>exact h
  | junk=>trivial
 obtain ⟨m2,hro⟩:=Mem.ren (hp2:=KH C vs ren hp) (at2:=at2) st.mem src (fun i hl=>by
  rcases inv i hl with hv | ⟨p,h1,h2⟩
  ·have hlv:=FJ i hv;rw [Fs i hv];refine ⟨Avg (fun e=>UN hl (by simp_all)),by grind,?_⟩;rw [hlv];cases look hp i .dead with
   | var cs=>exact ⟨by simp,fun j l l2 h1 h2 v hr=>by
     grind⟩
   | sl e xs=>rfl
   | io e xs=>rfl
   | ar e xs=>rfl
   | dead=>trivial
  ·subst h2;have hlr:=Dm p h1;rw [vZ p h1];refine ⟨Avg (fun e=>UN hl (by rw [hlr,e];rfl)),by grind,?_⟩;rw [hlr];cases look hp p.1 .dead <;> first | rfl | trivial)
  (fun i j hi hj he=>by
   have dj:∀ v,v ∈ vs->∀ p,p ∈ ren->v≠p.1:=fun v hv p hp'=>(List.nodup_append.1 n1).2.2 v hv p.1 (List.mem_map.2 ⟨p,hp',rfl⟩)
   rcases inv i hi with hv | ⟨p,h1,rfl⟩ <;> rcases inv j hj with hv' | ⟨q,h2,rfl⟩
   ·simp_all
   ·grind
   ·grind
   ·rw [vZ p h1,vZ q h2] at he;have:=At5 n1;have e1:look ren p.1 0=p.2:=AxF this h1;grind [AxF])
 refine ⟨at2,⟨m2,st.size,st.defers,fun t=>?_⟩,fun v hv=>⟨C6 v hv,by grind⟩⟩;by_cases ht:t ∈ ks
 ·have hlk:look (wK C ks vs ren env) t [.one .junk]=(look env t [.one .junk]).map (AKK C vs ren):=by
   unfold wK;clear inv Bn C6 cell;induction ks with
   | nil=>simp at ht
   | cons k ks ih=>
    simp only [List.map_cons,look];cases hb:Nat.beq t k with
    | true=>simp_all
    | false=>
     rcases List.mem_cons.1 ht with e | hm
     all_goals simp_all
  rw [hlk];have h:=st.env t;generalize look env t [.one .junk]=us at h;have hU:∀ (u:U C.El) (v:Value),AzR C hp AB w (BK C hp AB w) u v->AzR C (KH C vs ren hp) at2 w (BK C (KH C vs ren hp) at2 w) (AKK C vs ren u) v:=by
   intro u v h;cases u with
   | one l=>exact cell l v h
   | agg cs=>
    obtain ⟨arr,rfl,h1,h2⟩:=h
    refine ⟨arr,rfl,by simp_all,fun i l hl=>?_⟩;grind
   | arr e xs=>exact h
  match us,h with
  | [u],h=>exact hU u _ h
  | [],⟨arr,h1,h2,h3⟩=>exact ⟨arr,h1,h2,fun i u hu=>by simp at hu⟩
  | u1::u2::us,⟨arr,h1,h2,h3⟩=>
   refine ⟨arr,h1,by grind,fun i u hu=>?_⟩;have hu:((u1::u2::us).map (AKK C vs ren))[i]?=some u:=hu;grind
 ·have hlk:look (wK C ks vs ren env) t [.one .junk]=[.one .junk]:=AcP (fun p hp'=>by
   obtain ⟨k,hk,rfl⟩:=List.mem_map.1 hp'
   grind)
  rw [hlk];trivial
end
end Go.Ev
