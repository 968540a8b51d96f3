/- Memory under other numbers. -/
import Derived.Test.YtpjfloaghpgpdaaGreatDoorSnd18
namespace Go.Ev
set_option linter.unusedVariables false
set_option linter.unusedSimpArgs false
open Go
section
variable {C:Ctx} {P:Program} {hp hp2:Hp C} {at1 at2:At} {w w':World} {frz:Nat→Prop} {w0:World} {Ec:Nat→Nat→Prop} {n:Nat} {env:Env C} {a:Act}
def DX (C:Ctx) (hp hp2:Hp C) (at1 at2:At) (w:World):JA C.El→JA C.El→Prop
 | .var cs,.var cs2=>cs2.length=cs.length∧∀ (j:Nat) (l l2:L C.El),cs[j]?=some l→cs2[j]?=some l2→∀ v,KA C hp at1 w (AA C hp at1 w) l v→KA C hp2 at2 w (AA C hp2 at2 w) l2 v
 | .sl e xs,o=>o=.sl e xs
 | .io e xs,o=>o=.io e xs
 | .ar e xs,o=>o=.ar e xs
 | _,.dead=>True
 | _,_=>False
theorem PD {id:Nat} (h:live C hp id):look hp id .dead≠.dead:=by
 grind [live]
theorem ZA {id:Nat} (h:look hp id .dead≠.dead):live C hp id:=by
 simp [live]
theorem Mem.ren (m:Mem C w0 Ec hp at1 frz w) (src:Nat→Nat) (h1:∀ i,live C hp2 i→live C hp (src i)∧at2 i=at1 (src i)∧DX C hp hp2 at1 at2 w (look hp (src i) .dead) (look hp2 i .dead))
  (h2:∀ i j,live C hp2 i→live C hp2 j→src i=src j→i=j):Mem C w0 Ec hp2 at2 frz w∧(∀ b,AA C hp at1 w b→AA C hp2 at2 w b):=by
 have hwr:∀ b,wr C hp2 at2 b→wr C hp at1 b:=fun b ⟨i,off,hl,ha⟩=>⟨src i,off,(h1 i hl).1,by simp_all⟩
 have hro:∀ b,AA C hp at1 w b→AA C hp2 at2 w b:=fun b hb=>⟨hb.1,fun hw=>hb.2 (hwr b hw)⟩
 refine ⟨⟨fun i=>?_,fun i j b off off' hi hj ha hb=>?_,fun i b off hl ha=>?_,fun i b off hl ha hb=>?_,fun b hb=>?_,m.frame⟩,hro⟩
 ·by_cases hl:live C hp2 i
  ·obtain ⟨g1,g2,g3⟩:=h1 i hl
   have ho:=m.obj (src i)
   unfold OA at ho ⊢
   rw [g2]
   generalize look hp (src i) .dead=o1 at ho g3
   generalize look hp2 i .dead=o2 at g3
   cases o1 with
   | var cs=>
    cases o2 with
    | var cs2=>
     obtain ⟨hlen,hrel⟩:=g3
     obtain ⟨b,off,ha,hc⟩:=ho
     refine ⟨b,off,ha,fun j l2 hj=>?_⟩
     grind
    | dead=>trivial
    | _=>exact g3.elim
   | sl e xs=>have g3:o2=_:=g3;simp_all
   | io e xs=>have g3:o2=_:=g3;simp_all
   | ar e xs=>have g3:o2=_:=g3;simp_all
   | dead=>cases o2 <;> first | trivial | exact g3.elim
  grind [OA,ZA]
 ·obtain ⟨g1,g2,_⟩:=h1 i hi
  obtain ⟨g3,g4,_⟩:=h1 j hj
  exact h2 i j hi hj (m.dist _ _ b off off' g1 g3 (by simp_all) (by simp_all))
 ·obtain ⟨g1,g2,_⟩:=h1 i hl
  exact m.lt _ b off g1 (by simp_all)
 ·obtain ⟨g1,g2,g3⟩:=h1 i hl
  obtain ⟨g4,g5⟩:=m.old _ b off g1 (by simp_all) hb
  refine ⟨g4,?_⟩
  generalize look hp (src i) .dead=o1 at g5 g3
  generalize look hp2 i .dead=o2 at g3
  cases o1 with
  | var cs=>
   cases o2 with
   | var cs2=>obtain ⟨hlen,_⟩:=g3;simp_all [QD]
   | dead=>trivial
   | _=>exact g3.elim
  | sl e xs=>have g3:o2=_:=g3;simp_all
  | io e xs=>have g3:o2=_:=g3;simp_all
  | ar e xs=>have g3:o2=_:=g3;simp_all
  | dead=>cases o2 <;> first | trivial | exact g3.elim
 ·obtain ⟨g1,g2,g3⟩:=m.frz b hb
  grind
theorem EX {id id2:Nat} {ro ro':Nat→Prop} {v:Value} (h:KA C hp at1 w ro (.own id) v) (hl:look hp2 id2 .dead=JF C (look hp id .dead)) (ha:at2 id2=at1 id) (hb:BA hp2 id2=true):KA C hp2 at2 w ro' (.own id2) v:=by
 obtain ⟨g1,_,g3⟩:=h
 refine ⟨g1,hb,?_⟩
 rw [hl,ha]
 revert g3
 cases look hp id .dead <;> simp [JF]
theorem FX {id id2 off len:Nat} {ro ro':Nat→Prop} {v:Value} (h:KA C hp at1 w ro (.sub id off len) v) (hl:look hp2 id2 .dead=JF C (look hp id .dead)) (ha:at2 id2=at1 id) (hb:BA hp2 id2=true):KA C hp2 at2 w ro' (.sub id2 off len) v:=by
 obtain ⟨g1,_,g3⟩:=h
 refine ⟨g1,hb,?_⟩
 rw [hl,ha]
 revert g3
 cases look hp id .dead <;> simp [JF]
theorem GX {id:Nat} {ro ro':Nat→Prop} {v:Value} (h:KA C hp at1 w ro (.own id) v) (hl:look hp2 id .dead=look hp id .dead∨∃ cs,look hp2 id .dead=.var cs) (ha:at2 id=at1 id) (hb:BA hp2 id=true):KA C hp2 at2 w ro' (.own id) v:=by
 obtain ⟨g1,_,g3⟩:=h
 refine ⟨g1,hb,?_⟩
 grind
theorem IX {id off len:Nat} {ro ro':Nat→Prop} {v:Value} (h:KA C hp at1 w ro (.sub id off len) v) (hl:look hp2 id .dead=look hp id .dead∨∃ cs,look hp2 id .dead=.var cs) (ha:at2 id=at1 id) (hb:BA hp2 id=true):KA C hp2 at2 w ro' (.sub id off len) v:=by
 obtain ⟨g1,_,g3⟩:=h
 refine ⟨g1,hb,?_⟩
 grind
theorem ZF {i:Nat}:∀ {l:List Nat},inB i l=true↔i ∈ l:=by
 intro l
 induction l with
 | nil=>simp [inB]
 | cons j l ih=>
  simp only [inB]
  split
  ·simp_all
  ·rename_i h
   have hne:i≠j:=fun e=>by simp_all
   simp_all
theorem KG:∀ {l:List Nat},nodupB l=true→l.Nodup:=by
 intro l
 induction l<;>grind [nodupB,ZF]
theorem BP {α:Type} {l:List (Nat×α)} {i:Nat} {d:α} (h:∀ p ∈ l,p.1≠i):look l i d=d:=by
 induction l<;>grind [Nat.eq_of_beq_eq_true,look]
theorem OB {α:Type} {l:List (Nat×α)} {i:Nat} {x d:α} (hn:(l.map (·.1)).Nodup) (h:(i,x) ∈ l):look l i d=x:=by
 induction l with
 | nil=>simp at h
 | cons p l ih=>
  obtain ⟨j,y⟩:=p
  rw [List.map_cons,List.nodup_cons] at hn
  rcases List.mem_cons.1 h with e | hm
  ·simp_all [look]
  grind [Nat.eq_of_beq_eq_true,look]
theorem RF {α:Type} {l:List (Nat×α)} {i:Nat} {x:α} (h:(i,x) ∈ l):BA l i=true:=by
 induction l with
 | nil=>simp at h
 | cons p l ih=>
  obtain ⟨j,y⟩:=p
  simp only [BA]
  split
  ·rfl
  ·rename_i hb
   rcases List.mem_cons.1 h with e | hm
   all_goals simp_all
theorem YB {α:Type} {l:List (Nat×α)} {i:Nat} (h:BA l i=true):∃ x,(i,x) ∈ l:=by
 induction l<;>grind [BA,Nat.eq_of_beq_eq_true]
theorem TF {α:Type} {l:List (Nat×α)} {i:Nat} {d x:α} (h:look l i d=x) (hne:x≠d):(i,x) ∈ l:=by
 induction l<;>grind [look,Nat.eq_of_beq_eq_true]
theorem DJ {l l':List Nat} (h:(l++l').Nodup):l'.Nodup:=(List.nodup_append.1 h).2.1
theorem St.cut (st:St C w0 Ec n env hp at1 frz a w) (ks vs:List Nat) (ren:List (Nat×Nat)) (hk1:nodupB (vs++ren.map fun r=>r.1)=true) (hk2:nodupB (vs++ren.map fun r=>r.2)=true) (hbv:∀ v ∈ vs,BA hp v=true→True) :
  ∃ at2,St C w0 Ec n (normEnv C ks vs ren env) (normHp C vs ren hp) at2 frz a w∧∀ v,v ∈ vs→BA (normHp C vs ren hp) v=true∧at2 v=at1 v:=by
 have n1:=KG hk1
 have n2:=KG hk2
 let src:Nat→Nat:=fun i=>if i ∈ vs then i else look (ren.map fun r=>(r.2,r.1)) i 0
 let at2:At:=fun i=>at1 (src i)
 have keys:((normHp C vs ren hp).map (·.1))=vs++ren.map (fun r=>r.2):=by
  simp [normHp,Function.comp_def]
 have srcV:∀ i,i ∈ vs→src i=i:=fun i hi=>by grind
 have FD:∀ p,p ∈ ren→src p.2=p.1:=fun p hp'=>by
  have hnot:p.2 ∉ vs:=fun hm=>by
   grind
  simp only [src,if_neg hnot]
  refine OB ?_ (List.mem_map.2 ⟨p,hp',rfl⟩)
  grind
 have memR:∀ p,p ∈ ren→((p.2,JF C (look hp p.1 .dead)):Nat×JA C.El) ∈ normHp C vs ren hp:=fun p hp'=>by
  grind [normHp]
 have lookR:∀ p,p ∈ ren→look (normHp C vs ren hp) p.2 .dead=JF C (look hp p.1 .dead):=fun p hp'=>OB (by simp_all) (memR p hp')
 have lookV:∀ v,v ∈ vs→look (normHp C vs ren hp) v .dead=(match look hp v .dead with | .var cs=>.var (cs.map (OE C vs ren)) | o=>o):=fun v hv=>OB (by simp_all) (by
  grind [normHp])
 have inv:∀ i,live C (normHp C vs ren hp) i→i ∈ vs∨∃ p,p ∈ ren∧p.2=i:=fun i hl=>by
  have hm:=TF (d:=JA.dead) rfl (PD hl)
  grind [normHp]
 have hro0:∀ b,AA C hp at1 w b→AA C (normHp C vs ren hp) at2 w b:=fun b hb=>⟨hb.1,fun ⟨i,off,hl,ha⟩=>hb.2 ⟨src i,off,by
  rcases inv i hl with hv | ⟨p,h1,h2⟩
  ·grind [ZA,PD]
  ·subst h2
   rw [FD p h1]
   exact ZA (fun e=>PD hl (by rw [lookR p h1,e];rfl)),ha⟩⟩
 have bndV:∀ v,v ∈ vs→BA (normHp C vs ren hp) v=true:=fun v hv=>by
  simp only [normHp]
  exact RF (List.mem_append_left _ (List.mem_map.2 ⟨v,hv,rfl⟩))
 have keptV:∀ v,v ∈ vs→look (normHp C vs ren hp) v .dead=look hp v .dead∨∃ cs,look (normHp C vs ren hp) v .dead=.var cs:=fun v hv=>by
  grind
 have cell:∀ (l:L C.El) (v:Value),KA C hp at1 w (AA C hp at1 w) l v→KA C (normHp C vs ren hp) at2 w (AA C (normHp C vs ren hp) at2 w) (OE C vs ren l) v:=by
  intro l v h
  cases l with
  | own id=>
   simp only [OE]
   split
   ·grind [ZF,GX]
   cases hb:BA ren id with
   | false=>exact h.1
   | true=>
    obtain ⟨x,hx⟩:=YB hb
    grind [OB,EX,RF]
  | sub id off len=>
   simp only [OE]
   split
   ·grind [ZF,IX]
   cases hb:BA ren id with
   | false=>trivial
   | true=>
    obtain ⟨x,hx⟩:=YB hb
    grind [OB,FX,RF]
  | ptr id off=>
   simp only [OE]
   cases hb:inB id vs with
   | false=>trivial
   | true=>
    have hv:=ZF.1 hb
    obtain ⟨_,b,o',ha,hvv⟩:=h
    exact ⟨bndV id hv,b,o',by grind,hvv⟩
  | eptr id i off=>trivial
  | rsl e xs=>exact Rep.mono h hro0
  | rptr e x off=>
   obtain ⟨b,o',V,hv,hb,hV⟩:=h
   exact ⟨b,o',V,hv,hro0 b hb,fun i l hl=>⟨(hV i l hl).1,(hV i l hl).2.mono hro0⟩⟩
  | int k n=>exact h
  | bool b=>exact h
  | str s=>exact h
  | fsl e xs=>exact h
  | nils=>exact h
  | cptr g i=>exact h
  | csl=>exact h
  | pptr i=>exact h
  | nilp=>exact h
  | fn f=>exact h
  | any=>exact h
  | junk=>trivial
 obtain ⟨m2,hro⟩:=Mem.ren (hp2:=normHp C vs ren hp) (at2:=at2) st.mem src (fun i hl=>by
  rcases inv i hl with hv | ⟨p,h1,h2⟩
  ·have hlv:=lookV i hv
   rw [srcV i hv]
   refine ⟨ZA (fun e=>PD hl (by simp_all)),by grind,?_⟩
   rw [hlv]
   cases look hp i .dead with
   | var cs=>exact ⟨by simp,fun j l l2 h1 h2 v hr=>by
     grind⟩
   | sl e xs=>rfl
   | io e xs=>rfl
   | ar e xs=>rfl
   | dead=>trivial
  ·subst h2
   have hlr:=lookR p h1
   rw [FD p h1]
   refine ⟨ZA (fun e=>PD hl (by rw [hlr,e];rfl)),by grind,?_⟩
   rw [hlr]
   cases look hp p.1 .dead <;> first | rfl | trivial)
  (fun i j hi hj he=>by
   have dj:∀ v,v ∈ vs→∀ p,p ∈ ren→v≠p.1:=fun v hv p hp'=>(List.nodup_append.1 n1).2.2 v hv p.1 (List.mem_map.2 ⟨p,hp',rfl⟩)
   rcases inv i hi with hv | ⟨p,h1,rfl⟩ <;> rcases inv j hj with hv' | ⟨q,h2,rfl⟩
   ·simp_all
   ·grind
   ·grind
   ·rw [FD p h1,FD q h2] at he
    have:=DJ n1
    have e1:look ren p.1 0=p.2:=OB this h1
    grind [OB])
 refine ⟨at2,⟨m2,st.size,st.defers,fun t=>?_⟩,fun v hv=>⟨bndV v hv,by grind⟩⟩
 by_cases ht:t ∈ ks
 ·have hlk:look (normEnv C ks vs ren env) t [.one .junk]=(look env t [.one .junk]).map (SG C vs ren):=by
   unfold normEnv
   clear inv hro0 bndV cell
   induction ks with
   | nil=>simp at ht
   | cons k ks ih=>
    simp only [List.map_cons,look]
    cases hb:Nat.beq t k with
    | true=>simp_all
    | false=>
     rcases List.mem_cons.1 ht with e | hm
     all_goals simp_all
  rw [hlk]
  have h:=st.env t
  generalize look env t [.one .junk]=us at h
  have hU:∀ (u:U C.El) (v:Value),QA C hp at1 w (AA C hp at1 w) u v→QA C (normHp C vs ren hp) at2 w (AA C (normHp C vs ren hp) at2 w) (SG C vs ren u) v:=by
   intro u v h
   cases u with
   | one l=>exact cell l v h
   | agg cs=>
    obtain ⟨arr,rfl,h1,h2⟩:=h
    refine ⟨arr,rfl,by simp_all,fun i l hl=>?_⟩
    grind
   | arr e xs=>exact h
  match us,h with
  | [u],h=>exact hU u _ h
  | [],⟨arr,h1,h2,h3⟩=>exact ⟨arr,h1,h2,fun i u hu=>by simp at hu⟩
  | u1::u2::us,⟨arr,h1,h2,h3⟩=>
   refine ⟨arr,h1,by grind,fun i u hu=>?_⟩
   have hu:((u1::u2::us).map (SG C vs ren))[i]?=some u:=hu
   grind
 ·have hlk:look (normEnv C ks vs ren env) t [.one .junk]=[.one .junk]:=BP (fun p hp'=>by
   obtain ⟨k,hk,rfl⟩:=List.mem_map.1 hp'
   grind)
  rw [hlk]
  trivial
end
end Go.Ev
