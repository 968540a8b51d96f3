/- Memory under other numbers. -/
import Derived.Test.YtnmmhkanpfmaaaaGreatDoorSnd18
namespace Go.Ev
set_option linter.unusedVariables false
set_option linter.unusedSimpArgs false
open Go
section
variable {C:Ctx} {P:Program} {hp hp2:Hp C} {at1 at2:At} {w w':World} {frz:Nat→Prop} {w0:World} {Ec:Nat→Nat→Prop} {n:Nat} {env:Env C} {a:Act}
def DX (C:Ctx) (hp hp2:Hp C) (at1 at2:At) (w:World):JA C.El→JA C.El→Prop
 | .var cs,.var cs2=>cs2.length=cs.length∧∀ (j:Nat) (l l2:L C.El),cs[j]?=some l→cs2[j]?=some l2→∀ v,KA C hp at1 w (AA C hp at1 w) l v→KA C hp2 at2 w (AA C hp2 at2 w) l2 v
 | .sl e xs,o=>o=.sl e xs
 | .io e xs,o=>o=.io e xs
 | .ar e xs,o=>o=.ar e xs
 | _,.dead=>True
 | _,_=>False
theorem PD {id:Nat} (h:live C hp id):look hp id .dead≠.dead:=by
 intro e;unfold live at h;rw [e] at h;exact h
theorem ZA {id:Nat} (h:look hp id .dead≠.dead):live C hp id:=by
 unfold live;split
 ·rename_i e;exact h e
 ·trivial
theorem Mem.ren (m:Mem C w0 Ec hp at1 frz w) (src:Nat→Nat) (h1:∀ i,live C hp2 i→live C hp (src i)∧at2 i=at1 (src i)∧DX C hp hp2 at1 at2 w (look hp (src i) .dead) (look hp2 i .dead))
  (h2:∀ i j,live C hp2 i→live C hp2 j→src i=src j→i=j):Mem C w0 Ec hp2 at2 frz w∧(∀ b,AA C hp at1 w b→AA C hp2 at2 w b):=by
 have hwr:∀ b,wr C hp2 at2 b→wr C hp at1 b:=fun b ⟨i,off,hl,ha⟩=>⟨src i,off,(h1 i hl).1,by rw [←(h1 i hl).2.1];exact ha⟩
 have hro:∀ b,AA C hp at1 w b→AA C hp2 at2 w b:=fun b hb=>⟨hb.1,fun hw=>hb.2 (hwr b hw)⟩
 refine ⟨⟨fun i=>?_,fun i j b off off' hi hj ha hb=>?_,fun i b off hl ha=>?_,fun i b off hl ha hb=>?_,fun b hb=>?_,m.frame⟩,hro⟩
 ·by_cases hl:live C hp2 i
  ·obtain ⟨g1,g2,g3⟩:=h1 i hl
   have ho:=m.obj (src i)
   unfold OA at ho ⊢
   rw [g2]
   generalize look hp (src i) .dead=o1 at ho g3
   generalize look hp2 i .dead=o2 at g3
   cases o1 with
   | var cs=>
    cases o2 with
    | var cs2=>
     obtain ⟨hlen,hrel⟩:=g3
     obtain ⟨b,off,ha,hc⟩:=ho
     refine ⟨b,off,ha,fun j l2 hj=>?_⟩
     have hlt:j<cs.length:=by rw [←hlen];exact (List.getElem?_eq_some_iff.1 hj).1
     obtain ⟨g4,v,g5,g6⟩:=hc j _ (List.getElem?_eq_getElem hlt)
     exact ⟨g4,v,g5,hrel j _ l2 (List.getElem?_eq_getElem hlt) hj v g6⟩
    | dead=>trivial
    | _=>exact g3.elim
   | sl e xs=>have g3:o2=_:=g3;subst g3;exact ho
   | io e xs=>have g3:o2=_:=g3;subst g3;exact ho
   | ar e xs=>have g3:o2=_:=g3;subst g3;exact ho
   | dead=>cases o2 <;> first | trivial | exact g3.elim
  ·unfold OA
   have:look hp2 i .dead=.dead:=Classical.byContradiction fun h=>hl (ZA h)
   rw [this];trivial
 ·obtain ⟨g1,g2,_⟩:=h1 i hi
  obtain ⟨g3,g4,_⟩:=h1 j hj
  exact h2 i j hi hj (m.dist _ _ b off off' g1 g3 (by rw [←g2];exact ha) (by rw [←g4];exact hb))
 ·obtain ⟨g1,g2,_⟩:=h1 i hl
  exact m.lt _ b off g1 (by rw [←g2];exact ha)
 ·obtain ⟨g1,g2,g3⟩:=h1 i hl
  obtain ⟨g4,g5⟩:=m.old _ b off g1 (by rw [←g2];exact ha) hb
  refine ⟨g4,?_⟩
  generalize look hp (src i) .dead=o1 at g5 g3
  generalize look hp2 i .dead=o2 at g3
  cases o1 with
  | var cs=>
   cases o2 with
   | var cs2=>obtain ⟨hlen,_⟩:=g3;simp only [QD] at g5 ⊢;rw [hlen];exact g5
   | dead=>trivial
   | _=>exact g3.elim
  | sl e xs=>have g3:o2=_:=g3;subst g3;exact g5
  | io e xs=>have g3:o2=_:=g3;subst g3;exact g5
  | ar e xs=>have g3:o2=_:=g3;subst g3;exact g5
  | dead=>cases o2 <;> first | trivial | exact g3.elim
 ·obtain ⟨g1,g2,g3⟩:=m.frz b hb
  exact ⟨g1,fun hw=>g2 (hwr b hw),g3⟩
theorem EX {id id2:Nat} {ro ro':Nat→Prop} {v:Value} (h:KA C hp at1 w ro (.own id) v) (hl:look hp2 id2 .dead=JF C (look hp id .dead)) (ha:at2 id2=at1 id) (hb:BA hp2 id2=true):KA C hp2 at2 w ro' (.own id2) v:=by
 obtain ⟨g1,_,g3⟩:=h
 refine ⟨g1,hb,?_⟩
 rw [hl,ha]
 revert g3
 cases look hp id .dead <;> simp [JF]
theorem FX {id id2 off len:Nat} {ro ro':Nat→Prop} {v:Value} (h:KA C hp at1 w ro (.sub id off len) v) (hl:look hp2 id2 .dead=JF C (look hp id .dead)) (ha:at2 id2=at1 id) (hb:BA hp2 id2=true):KA C hp2 at2 w ro' (.sub id2 off len) v:=by
 obtain ⟨g1,_,g3⟩:=h
 refine ⟨g1,hb,?_⟩
 rw [hl,ha]
 revert g3
 cases look hp id .dead <;> simp [JF]
theorem GX {id:Nat} {ro ro':Nat→Prop} {v:Value} (h:KA C hp at1 w ro (.own id) v) (hl:look hp2 id .dead=look hp id .dead∨∃ cs,look hp2 id .dead=.var cs) (ha:at2 id=at1 id) (hb:BA hp2 id=true):KA C hp2 at2 w ro' (.own id) v:=by
 obtain ⟨g1,_,g3⟩:=h
 refine ⟨g1,hb,?_⟩
 rcases hl with hl | ⟨cs,hl⟩
 ·rw [hl,ha];exact g3
 ·rw [hl];trivial
theorem IX {id off len:Nat} {ro ro':Nat→Prop} {v:Value} (h:KA C hp at1 w ro (.sub id off len) v) (hl:look hp2 id .dead=look hp id .dead∨∃ cs,look hp2 id .dead=.var cs) (ha:at2 id=at1 id) (hb:BA hp2 id=true):KA C hp2 at2 w ro' (.sub id off len) v:=by
 obtain ⟨g1,_,g3⟩:=h
 refine ⟨g1,hb,?_⟩
 rcases hl with hl | ⟨cs,hl⟩
 ·rw [hl,ha];exact g3
 ·rw [hl];trivial
theorem ZF {i:Nat}:∀ {l:List Nat},inB i l=true↔i ∈ l:=by
 intro l
 induction l with
 | nil=>simp [inB]
 | cons j l ih=>
  simp only [inB]
  split
  ·rename_i h;have:=Nat.eq_of_beq_eq_true h;subst this;simp
  ·rename_i h
   have hne:i≠j:=fun e=>by subst e;simp at h
   simp [hne,ih]
theorem KG:∀ {l:List Nat},nodupB l=true→l.Nodup:=by
 intro l
 induction l with
 | nil=>intro _;exact List.nodup_nil
 | cons i l ih=>
  intro h
  simp only [nodupB] at h
  split at h
  ·cases h
  ·rename_i hn
   exact List.nodup_cons.2 ⟨(fun hm=>by rw [ZF.2 hm] at hn;cases hn),ih h⟩
theorem BP {α:Type} {l:List (Nat×α)} {i:Nat} {d:α} (h:∀ p ∈ l,p.1≠i):look l i d=d:=by
 induction l with
 | nil=>rfl
 | cons p l ih=>
  obtain ⟨j,x⟩:=p
  have hne:Nat.beq i j=false:=by
   cases hb:Nat.beq i j with
   | false=>rfl
   | true=>exact absurd (Nat.eq_of_beq_eq_true hb).symm (h (j,x) (by simp))
  simp only [look,hne]
  exact ih (fun p hp=>h p (by simp [hp]))
theorem OB {α:Type} {l:List (Nat×α)} {i:Nat} {x d:α} (hn:(l.map (·.1)).Nodup) (h:(i,x) ∈ l):look l i d=x:=by
 induction l with
 | nil=>simp at h
 | cons p l ih=>
  obtain ⟨j,y⟩:=p
  rw [List.map_cons,List.nodup_cons] at hn
  rcases List.mem_cons.1 h with e | hm
  ·cases e;simp [look]
  ·have hne:Nat.beq i j=false:=by
    cases hb:Nat.beq i j with
    | false=>rfl
    | true=>
     have:=Nat.eq_of_beq_eq_true hb
     subst this
     exact absurd (List.mem_map.2 ⟨(i,x),hm,rfl⟩) hn.1
   simp only [look,hne]
   exact ih hn.2 hm
theorem RF {α:Type} {l:List (Nat×α)} {i:Nat} {x:α} (h:(i,x) ∈ l):BA l i=true:=by
 induction l with
 | nil=>simp at h
 | cons p l ih=>
  obtain ⟨j,y⟩:=p
  simp only [BA]
  split
  ·rfl
  ·rename_i hb
   rcases List.mem_cons.1 h with e | hm
   ·cases e;simp at hb
   ·exact ih hm
theorem YB {α:Type} {l:List (Nat×α)} {i:Nat} (h:BA l i=true):∃ x,(i,x) ∈ l:=by
 induction l with
 | nil=>simp [BA] at h
 | cons p l ih=>
  obtain ⟨j,y⟩:=p
  simp only [BA] at h
  split at h
  ·rename_i hb;have:=Nat.eq_of_beq_eq_true hb;subst this;exact ⟨y,by simp⟩
  ·obtain ⟨x,hx⟩:=ih h;exact ⟨x,by simp [hx]⟩
theorem TF {α:Type} {l:List (Nat×α)} {i:Nat} {d x:α} (h:look l i d=x) (hne:x≠d):(i,x) ∈ l:=by
 induction l with
 | nil=>exact absurd h.symm hne
 | cons p l ih=>
  obtain ⟨j,y⟩:=p
  simp only [look] at h
  split at h
  ·rename_i hb;have:=Nat.eq_of_beq_eq_true hb;subst this;subst h;simp
  ·exact List.mem_cons_of_mem _ (ih h)
theorem DJ {l l':List Nat} (h:(l++l').Nodup):l'.Nodup:=(List.nodup_append.1 h).2.1
theorem St.cut (st:St C w0 Ec n env hp at1 frz a w) (ks vs:List Nat) (ren:List (Nat×Nat)) (hk1:nodupB (vs++ren.map fun r=>r.1)=true) (hk2:nodupB (vs++ren.map fun r=>r.2)=true) (hbv:∀ v ∈ vs,BA hp v=true→True) :
  ∃ at2,St C w0 Ec n (normEnv C ks vs ren env) (normHp C vs ren hp) at2 frz a w∧∀ v,v ∈ vs→BA (normHp C vs ren hp) v=true∧at2 v=at1 v:=by
 have n1:=KG hk1
 have n2:=KG hk2
 let src:Nat→Nat:=fun i=>if i ∈ vs then i else look (ren.map fun r=>(r.2,r.1)) i 0
 let at2:At:=fun i=>at1 (src i)
 have keys:((normHp C vs ren hp).map (·.1))=vs++ren.map (fun r=>r.2):=by
  simp [normHp,List.map_append,List.map_map,Function.comp_def]
 have srcV:∀ i,i ∈ vs→src i=i:=fun i hi=>by simp only [src,if_pos hi]
 have FD:∀ p,p ∈ ren→src p.2=p.1:=fun p hp'=>by
  have hnot:p.2 ∉ vs:=fun hm=>by
   have:=(List.nodup_append.1 n2).2.2 p.2 hm p.2 (List.mem_map.2 ⟨p,hp',rfl⟩)
   exact this rfl
  simp only [src,if_neg hnot]
  refine OB ?_ (List.mem_map.2 ⟨p,hp',rfl⟩)
  rw [List.map_map]
  exact DJ n2
 have memR:∀ p,p ∈ ren→((p.2,JF C (look hp p.1 .dead)):Nat×JA C.El) ∈ normHp C vs ren hp:=fun p hp'=>by
  simp only [normHp]
  exact List.mem_append_right _ (List.mem_map.2 ⟨p,hp',rfl⟩)
 have lookR:∀ p,p ∈ ren→look (normHp C vs ren hp) p.2 .dead=JF C (look hp p.1 .dead):=fun p hp'=>OB (by rw [keys];exact n2) (memR p hp')
 have lookV:∀ v,v ∈ vs→look (normHp C vs ren hp) v .dead=(match look hp v .dead with | .var cs=>.var (cs.map (OE C vs ren)) | o=>o):=fun v hv=>OB (by rw [keys];exact n2) (by
  simp only [normHp]
  exact List.mem_append_left _ (List.mem_map.2 ⟨v,hv,rfl⟩))
 have inv:∀ i,live C (normHp C vs ren hp) i→i ∈ vs∨∃ p,p ∈ ren∧p.2=i:=fun i hl=>by
  have hm:=TF (d:=JA.dead) rfl (PD hl)
  have:i ∈ (normHp C vs ren hp).map (·.1):=List.mem_map.2 ⟨_,hm,rfl⟩
  rw [keys,List.mem_append] at this
  rcases this with h | h
  ·exact .inl h
  ·obtain ⟨p,h1,h2⟩:=List.mem_map.1 h
   exact .inr ⟨p,h1,h2⟩
 have hro0:∀ b,AA C hp at1 w b→AA C (normHp C vs ren hp) at2 w b:=fun b hb=>⟨hb.1,fun ⟨i,off,hl,ha⟩=>hb.2 ⟨src i,off,by
  rcases inv i hl with hv | ⟨p,h1,h2⟩
  ·rw [srcV i hv]
   refine ZA (fun e=>PD hl ?_)
   rw [lookV i hv,e]
  ·subst h2
   rw [FD p h1]
   exact ZA (fun e=>PD hl (by rw [lookR p h1,e];rfl)),ha⟩⟩
 have bndV:∀ v,v ∈ vs→BA (normHp C vs ren hp) v=true:=fun v hv=>by
  simp only [normHp]
  exact RF (List.mem_append_left _ (List.mem_map.2 ⟨v,hv,rfl⟩))
 have keptV:∀ v,v ∈ vs→look (normHp C vs ren hp) v .dead=look hp v .dead∨∃ cs,look (normHp C vs ren hp) v .dead=.var cs:=fun v hv=>by
  rw [lookV v hv]
  cases look hp v .dead with
  | var cs=>exact .inr ⟨_,rfl⟩
  | _=>exact .inl rfl
 have cell:∀ (l:L C.El) (v:Value),KA C hp at1 w (AA C hp at1 w) l v→KA C (normHp C vs ren hp) at2 w (AA C (normHp C vs ren hp) at2 w) (OE C vs ren l) v:=by
  intro l v h
  cases l with
  | own id=>
   simp only [OE]
   split
   ·rename_i hb
    have hv:=ZF.1 hb
    exact GX h (keptV id hv) (by show at1 (src id)=_;rw [srcV id hv]) (bndV id hv)
   cases hb:BA ren id with
   | false=>trivial
   | true=>
    obtain ⟨x,hx⟩:=YB hb
    have hlk:look ren id 0=x:=OB (DJ n1) hx
    simp only [cond_true,hlk]
    exact EX h (lookR (id,x) hx) (by show at1 (src x)=at1 id;rw [FD (id,x) hx]) (RF (memR (id,x) hx))
  | sub id off len=>
   simp only [OE]
   split
   ·rename_i hb
    have hv:=ZF.1 hb
    exact IX h (keptV id hv) (by show at1 (src id)=_;rw [srcV id hv]) (bndV id hv)
   cases hb:BA ren id with
   | false=>trivial
   | true=>
    obtain ⟨x,hx⟩:=YB hb
    have hlk:look ren id 0=x:=OB (DJ n1) hx
    simp only [cond_true,hlk]
    exact FX h (lookR (id,x) hx) (by show at1 (src x)=at1 id;rw [FD (id,x) hx]) (RF (memR (id,x) hx))
  | ptr id off=>
   simp only [OE]
   cases hb:inB id vs with
   | false=>trivial
   | true=>
    have hv:=ZF.1 hb
    obtain ⟨_,b,o',ha,hvv⟩:=h
    exact ⟨bndV id hv,b,o',by show at1 (src id)=_;rw [srcV id hv];exact ha,hvv⟩
  | eptr id i off=>trivial
  | rsl e xs=>exact Rep.mono h hro0
  | rptr e x off=>
   obtain ⟨b,o',V,hv,hb,hV⟩:=h
   exact ⟨b,o',V,hv,hro0 b hb,fun i l hl=>⟨(hV i l hl).1,(hV i l hl).2.mono hro0⟩⟩
  | int k n=>exact h
  | bool b=>exact h
  | str s=>exact h
  | fsl e xs=>exact h
  | nils=>exact h
  | cptr g i=>exact h
  | csl=>exact h
  | pptr i=>exact h
  | nilp=>exact h
  | fn f=>exact h
  | junk=>trivial
 obtain ⟨m2,hro⟩:=Mem.ren (hp2:=normHp C vs ren hp) (at2:=at2) st.mem src (fun i hl=>by
  rcases inv i hl with hv | ⟨p,h1,h2⟩
  ·have hlv:=lookV i hv
   rw [srcV i hv]
   refine ⟨ZA (fun e=>PD hl (by rw [hlv,e])),by show at1 (src i)=_;rw [srcV i hv],?_⟩
   rw [hlv]
   cases look hp i .dead with
   | var cs=>exact ⟨by simp,fun j l l2 h1 h2 v hr=>by
     rw [List.getElem?_map,h1] at h2
     cases h2
     exact cell l v hr⟩
   | sl e xs=>rfl
   | io e xs=>rfl
   | ar e xs=>rfl
   | dead=>trivial
  ·subst h2
   have hlr:=lookR p h1
   rw [FD p h1]
   refine ⟨ZA (fun e=>PD hl (by rw [hlr,e];rfl)),by show at1 (src p.2)=_;rw [FD p h1],?_⟩
   rw [hlr]
   cases look hp p.1 .dead <;> first | rfl | trivial)
  (fun i j hi hj he=>by
   have dj:∀ v,v ∈ vs→∀ p,p ∈ ren→v≠p.1:=fun v hv p hp'=>(List.nodup_append.1 n1).2.2 v hv p.1 (List.mem_map.2 ⟨p,hp',rfl⟩)
   rcases inv i hi with hv | ⟨p,h1,rfl⟩ <;> rcases inv j hj with hv' | ⟨q,h2,rfl⟩
   ·rw [srcV i hv,srcV j hv'] at he;exact he
   ·rw [srcV i hv,FD q h2] at he;exact absurd he (dj i hv q h2)
   ·rw [FD p h1,srcV j hv'] at he;exact absurd he.symm (dj j hv' p h1)
   ·rw [FD p h1,FD q h2] at he
    have:=DJ n1
    have e1:look ren p.1 0=p.2:=OB this h1
    have e2:look ren q.1 0=q.2:=OB this h2
    rw [←e1,←e2,he])
 refine ⟨at2,⟨m2,st.size,st.defers,fun t=>?_⟩,fun v hv=>⟨bndV v hv,by show at1 (src v)=_;rw [srcV v hv]⟩⟩
 by_cases ht:t ∈ ks
 ·have hlk:look (normEnv C ks vs ren env) t [.one .junk]=(look env t [.one .junk]).map (SG C vs ren):=by
   unfold normEnv
   clear inv hro0 bndV cell
   induction ks with
   | nil=>simp at ht
   | cons k ks ih=>
    simp only [List.map_cons,look]
    cases hb:Nat.beq t k with
    | true=>have:=Nat.eq_of_beq_eq_true hb;subst this;rfl
    | false=>
     rcases List.mem_cons.1 ht with e | hm
     ·subst e;simp at hb
     ·exact ih hm
  rw [hlk]
  have h:=st.env t
  generalize look env t [.one .junk]=us at h
  have hU:∀ (u:U C.El) (v:Value),QA C hp at1 w (AA C hp at1 w) u v→QA C (normHp C vs ren hp) at2 w (AA C (normHp C vs ren hp) at2 w) (SG C vs ren u) v:=by
   intro u v h
   cases u with
   | one l=>exact cell l v h
   | agg cs=>
    obtain ⟨arr,rfl,h1,h2⟩:=h
    refine ⟨arr,rfl,by simpa [SG] using h1,fun i l hl=>?_⟩
    rw [List.getElem?_map] at hl
    obtain ⟨l0,h3,rfl⟩:=Option.map_eq_some_iff.1 hl
    obtain ⟨u,h4,h5⟩:=h2 i l0 h3
    exact ⟨u,h4,cell l0 u h5⟩
   | arr e xs=>exact h
  match us,h with
  | [u],h=>exact hU u _ h
  | [],⟨arr,h1,h2,h3⟩=>exact ⟨arr,h1,h2,fun i u hu=>by simp at hu⟩
  | u1::u2::us,⟨arr,h1,h2,h3⟩=>
   refine ⟨arr,h1,by simpa using h2,fun i u hu=>?_⟩
   have hu:((u1::u2::us).map (SG C vs ren))[i]?=some u:=hu
   rw [List.getElem?_map] at hu
   obtain ⟨u0,h4,rfl⟩:=Option.map_eq_some_iff.1 hu
   obtain ⟨x,h5,h6⟩:=h3 i u0 h4
   exact ⟨x,h5,hU u0 x h6⟩
 ·have hlk:look (normEnv C ks vs ren env) t [.one .junk]=[.one .junk]:=BP (fun p hp'=>by
   obtain ⟨k,hk,rfl⟩:=List.mem_map.1 hp'
   exact fun e=>ht (by rw [←e];exact hk))
  rw [hlk]
  trivial
end
end Go.Ev
