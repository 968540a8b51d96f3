/- An operation that sees more does the same: all operations. -/
import Derived.Test.YtkbbicgglblfiaaGreatDoorSnd32
namespace Go.Ev
set_option linter.unusedVariables false
set_option linter.unusedSimpArgs false
open Go
section
variable {C:Ctx} {P:Program} {hp hp':Hp C} {γ:Type} {env env':Env C} {AC:Nat->Nat} {call:Nat->List (U C.El)->(List (U C.El)->Option γ)->Option γ} {r:γ}
theorem UJ {R:Type} {d:Nat} (h:Bj hp (site d 0)=false) (k f:R):fresh C hp d k f=k:=by simp [fresh,h]
theorem As5 {op:BinOp} {t:Nat} {x y:Val C.El} {K:Val C.El->Option γ} (h:YM C op t x y K none=some r):∃ v,K v=some r/\∀ (γ':Type) (K':Val C.El->Option γ'),YM C op t x y K' none=K' v:=by
 cases op <;> unfold YM at h <;> split at h <;> first
  | (cases h;done)
  | (rename_i h0;cases h0;done)
  | (obtain ⟨h1,h2⟩:=AyE h;refine ⟨_,h2,fun γ' K'=>?_⟩;simp only [YM,h1];rfl)
  | (split at h <;> first
    | (cases h;done)
    | (rename_i hk hl;refine ⟨_,h,fun γ' K'=>?_⟩;simp only [YM,hk,hl];done)
    | (rename_i hl;refine ⟨_,h,fun γ' K'=>?_⟩;simp_all [YM])
    | (rename_i hl;obtain ⟨h1,h2⟩:=AyE h;refine ⟨_,h2,fun γ' K'=>?_⟩;simp only [YM,hl,h1];rfl)
    | (rename_i h0 _ _;cases h0;done)
    | (exfalso;simp_all;done))
  | (exfalso;simp_all;done)
theorem AJ9 {lo hi:Option (Val C.El)} {n:Nat} {k:Nat->Nat->Option γ} (h:cutAt C lo hi n k none=some r):∃ a b,k a b=some r/\∀ (γ':Type) (k':Nat->Nat->Option γ'),cutAt C lo hi n k' none=k' a b:=by
 unfold cutAt at h;split at h;·exact ⟨_,_,h,fun γ' k'=>rfl⟩
 ·obtain ⟨h1,h2⟩:=AyE h;exact ⟨_,_,h2,fun γ' K'=>by simp only [cutAt,h1];rfl⟩
 ·obtain ⟨h1,h2⟩:=AyE h;exact ⟨_,_,h2,fun γ' K'=>by simp only [cutAt,h1];rfl⟩
 ·obtain ⟨h1,h2⟩:=AyE h;exact ⟨_,_,h2,fun γ' K'=>by simp only [cutAt,h1];rfl⟩
 ·cases h
theorem As6 {l:List Operand} (h:∀ x,x ∈ l->CB C env' x=CB C env x):vals C env' l=vals C env l:=by induction l<;>simp_all [vals]
theorem Acd {l:List (Nat×Operand)} (h:∀ x,x ∈ l->CB C env' x.2=CB C env x.2):parts C env' l=parts C env l:=by induction l<;>simp_all [parts]
def G5 (Q:Nat->Prop):Prop:=∃ N,∀ k,N<=k->Q k
theorem G5.of {Q:Nat->Prop} (h:∀ k,Q k):G5 Q:=⟨0,fun k _=>h k⟩
theorem G5.mono {Q R:Nat->Prop} (h:G5 Q) (hr:∀ k,Q k->R k):G5 R:=⟨h.choose,fun k hk=>hr k (h.choose_spec k hk)⟩
theorem G5.and {Q R:Nat->Prop} (h:G5 Q) (h':G5 R):G5 fun k=>Q k/\R k:=by
 obtain ⟨N,hN⟩:=h
 obtain ⟨M,hM⟩:=h'
 exact ⟨max N M,fun k hk=>⟨hN k (by omega),hM k (by omega)⟩⟩
theorem G5.now {Q:Prop} (h:G5 fun _=>Q):Q:=h.choose_spec h.choose (Nat.le_refl _)
theorem G5.imp {Q R:Nat->Prop} (h:∀ k,Q k->R k):G5 Q->G5 R:=fun e=>e.mono h
def jV {γ γ':Type} (call:Nat->List (U C.El)->(List (U C.El)->Option γ)->Option γ) (call':Nat->Nat->List (U C.El)->(List (U C.El)->Option γ')->Option γ'):Prop:=
 ∀ (g:Nat) (us:List (U C.El)) (F:List (U C.El)->Option γ) (r:γ),call g us F=some r->∃ rs,F rs=some r/\G5 fun k=>∀ F':List (U C.El)->Option γ',call' k g us F'=F' rs
abbrev AEM (call:Nat->List (U C.El)->(List (U C.El)->Option γ)->Option γ):Prop:=jV call (fun _=>call)
theorem As1 (k:Nat):AEM (callOf C P k):=by
 intro g us F r h;obtain ⟨rs,h1,h2⟩:=Option.bind_eq_some_iff.1 h
 exact ⟨rs,h2,.of fun _ F'=>by show (RG C P k g us).bind F'=_;simp_all⟩
def Iq (C:Ctx) (P:Program) {γ γ':Type} (AC:Nat->Nat) (call':Nat->Nat->List (U C.El)->(List (U C.El)->Option γ')->Option γ') (env':Env C) (hp':Hp C) (d:Nat) (op:Op) (K:Val C.El->Hp C->Option γ) (r:γ):Prop:=
 ∃ v h,K v h=some r/\G5 fun k=>∀ K':Val C.El->Hp C->Option γ',Ci C P AC (call' k) env' hp' d op K' none=K' v h
theorem Ace {γ':Type} {call':Nat->Nat->List (U C.El)->(List (U C.El)->Option γ')->Option γ'} {d g:Nat} {args:Array Operand} {K:Val C.El->Hp C->Option γ} (hcall:jV call call') (e:vals C env' args.toList=vals C env args.toList)
  (EE:Le hp hp') (hG:∀ i,i / 64=d->Bj hp i=false->Bj hp' i=false) (h:jY C P AC call env hp d g args K none=some r) :
  ∃ v h,K v h=some r/\G5 fun k=>∀ K':Val C.El->Hp C->Option γ',jY C P AC (call' k) env' hp' d g args K' none=K' v h:=by
 simp only [jY,e] at h ⊢;generalize vals C env args.toList=vs at h ⊢;split at h;·cases h
 ·split at h
  ·rename_i q hq;simp only [As7 EE _ _ _ _ hq];split at h
   ·rename_i us hnd hh;simp only [hnd,As8 (EE.app _) _ _ _ _ hh];obtain ⟨rs,h1,h2⟩:=hcall _ _ _ _ h
    split at h1
    ·rename_i hb hback;split at h1;·rename_i hfr;refine ⟨_,_,h1,h2.mono fun k h2 K'=>?_⟩;grind [UQ,Ea]
     simp_all
    simp_all
   ·cases h
  ·cases h
theorem ATu {γ':Type} {call':Nat->Nat->List (U C.El)->(List (U C.El)->Option γ')->Option γ'} {d:Nat} {op:Op} {K:Val C.El->Hp C->Option γ} (hcall:jV call call') (hE:∀ x,x ∈ op.operands->CB C env' x=CB C env x)
  (hH:touches op=true->Le hp hp'/\∀ i,i / 64=d->Bj hp' i=true->Bj hp i=true) (h:Ci C P AC call env hp d op K none=some r):Iq C P AC call' env' hp' d op K r:=by
 have hG:touches op=true->∀ i,i / 64=d->Bj hp i=false->Bj hp' i=false:=fun ht i hi hb=>by grind
 have hF:touches op=true->∀ (j:Nat),Bj hp (site d 0)=false->Bj hp' (site d 0)=false:=fun ht j hb=>hG ht _ (by simp [site]) hb
 cases op with
 | move x=>
  have e:=hE x (by simp [Op.operands]);simp only [Iq,Ci,e] at h ⊢;exact ⟨_,_,h,.of fun _ _=>rfl⟩
 | assign x=>
  have e:=hE x (by simp [Op.operands]);simp only [Iq,Ci,e] at h ⊢;exact ⟨_,_,h,.of fun _ _=>rfl⟩
 | pick c x y=>
  have e1:=hE c (by simp [Op.operands]);have e2:=hE x (by simp [Op.operands]);have e3:=hE y (by simp [Op.operands]);simp only [Iq,Ci,e1,e2,e3] at h ⊢;generalize CB C env c=cv at h ⊢;split at h
  ·rename_i p;cases p;·exact ⟨_,_,h,.of fun _ _=>rfl⟩
   ·exact ⟨_,_,h,.of fun _ _=>rfl⟩
  ·cases h
 | alloc t=>
  simp only [Iq,Ci] at h ⊢;generalize (C.ti t).kind=k at h ⊢;split at h
  ·obtain ⟨h1,h2⟩:=QB h
   exact ⟨_,_,h2,.of fun _ _=>UJ (hF rfl 0 h1) _ _⟩
  ·cases h
  ·rename_i n1 n2;obtain ⟨h1,h2⟩:=QB h
   exact ⟨_,_,h2,.of fun _ _=>UJ (hF rfl 0 h1) _ _⟩
 | box t x=>
  have e:=hE x (by simp [Op.operands]);simp only [Iq,Ci,e] at h ⊢;generalize CB C env x=xv at h ⊢;split at h
  ·obtain ⟨h1,h2⟩:=QB h
   exact ⟨_,_,h2,.of fun _ _=>UJ (hF rfl 0 h1) _ _⟩
  ·rename_i u hne;split at h
   ·rename_i hj;obtain ⟨h1,h2⟩:=QB h
    refine ⟨_,_,h2,.of fun _ K'=>?_⟩;cases u with
    | arr e xs=>grind
    | _=>first | exact UJ (hF rfl 0 h1) _ _ | (simp only [hj];exact UJ (hF rfl 0 h1) _ _)
   ·cases h
  ·cases h
 | build t ps=>
  have e:parts C env' ps.toList=parts C env ps.toList:=Acd (fun p hp'=>hE p.2 (by grind [Op.operands]));simp only [Iq,Ci,e] at h ⊢;generalize (C.ti t).kind=k at h ⊢;split at h
  ·split at h;·rename_i cs hc;exact ⟨_,_,h,.of fun _ _=>rfl⟩
   ·cases h
  ·split at h;·rename_i q hq hpl;refine ⟨_,_,h,.of fun _ _=>?_⟩;rw [Acf (hH rfl).1 _ _ _ _ hq,hpl]
   ·cases h
  ·cases h
 | buildSlice t n ps=>
  have e:parts C env' ps.toList=parts C env ps.toList:=Acd (fun p hp'=>hE p.2 (by grind [Op.operands]));simp only [Iq,Ci,e] at h ⊢;generalize (C.ti t).kind=k at h ⊢;split at h
  ·split at h
   ·rename_i q hq;obtain ⟨h1,h2⟩:=AyE h
    obtain ⟨h3,h4⟩:=QB h2
    refine ⟨_,_,h4,.of fun _ _=>?_⟩;have hb:Bj (q.2++hp') (site d 0)=false:=by rw [AEO] at h3 ⊢;rw [Bool.or_eq_false_iff] at h3 ⊢;exact ⟨h3.1,hF rfl 0 h3.2⟩
    rw [Acf (hH rfl).1 _ _ _ _ hq];simp only [h1];exact UJ hb _ _
   ·cases h
  ·cases h
 | load t x=>
  have e:=hE x (by simp [Op.operands]);simp only [Iq,Ci,e] at h ⊢;generalize CB C env x=xv at h ⊢;split at h
  ·rename_i l;replace h:=(AKB (C:=C) (hp:=hp) (t:=t) (l:=l) (F:=fun u=>K [u] []) (fail:=none)).symm.trans h;split at h;·rename_i u hu;refine ⟨_,_,h,.of fun _ _=>(AKB (C:=C) (F:=fun u=>_)).trans ?_⟩;simp only [As9 (hH rfl).1 hu]
   ·cases h
  ·cases h
 | store t x y=>
  have e1:=hE x (by simp [Op.operands]);have e2:=hE y (by simp [Op.operands]);simp only [Iq,Ci,e1,e2] at h ⊢;generalize CB C env x=xv at h ⊢;generalize CB C env y=yv at h ⊢;split at h
  ·rename_i l u0;replace h:=(AT3 (C:=C) (hp:=hp) (t:=t) (l:=l) (u:=u0) (F:=fun h=>K [.one .junk] h) (fail:=none)).symm.trans h;split at h;·rename_i u hu;refine ⟨_,_,h,.of fun _ _=>(AT3 (C:=C) (F:=fun h=>_)).trans ?_⟩;simp only [AtA (hH rfl).1 hu]
   ·cases h
  ·cases h
 | nilCheck x=>
  have e:=hE x (by simp [Op.operands]);simp only [Iq,Ci,e] at h ⊢;generalize CB C env x=xv at h ⊢
  split at h <;> first
   | exact ⟨_,_,h,.of fun _ _=>rfl⟩
   | cases h
 | binOp op t x y t'=>
  have e1:=hE x (by simp [Op.operands]);have e2:=hE y (by simp [Op.operands]);simp only [Iq,Ci,e1,e2] at h ⊢;split at h;·rename_i b hb;exact ⟨_,_,h,.of fun _ _=>by rfl⟩
  rename_i hb;obtain ⟨v,h1,h2⟩:=As5 h
  exact ⟨v,[],h1,.of fun _ K'=>h2 _ (fun v=>K' v [])⟩
 | unOp op t x=>
  have e:=hE x (by simp [Op.operands]);simp only [Iq,Ci,e] at h ⊢;generalize CB C env x=xv at h ⊢
  split at h <;> first
   | exact ⟨_,_,h,.of fun _ _=>rfl⟩
   | cases h
 | convert s t x=>
  have e:=hE x (by simp [Op.operands]);simp only [Iq,Ci,e] at h ⊢;generalize CB C env x=xv at h ⊢;generalize (C.ti s).kind=k1 at h ⊢;generalize (C.ti t).kind=k2 at h ⊢;split at h;·exact ⟨_,_,h,.of fun _ _=>rfl⟩
  ·exact ⟨_,_,h,.of fun _ _=>rfl⟩
  ·split at h
   ·rename_i h1 h2 h3;obtain ⟨h4,h5⟩:=AyE h
    obtain ⟨h6,h7⟩:=QB h5
    refine ⟨_,_,h7,.of fun _ _=>?_⟩;simp only [h2,h3,h4];exact UJ (hF rfl 0 h6) _ _
   ·cases h
  ·split at h;·rename_i h1 xs h2 h3 h4;refine ⟨_,_,h,.of fun _ _=>?_⟩;simp only [h2,h3,AT4 (hH rfl).1 h4]
   ·cases h
  ·cases h
 | fieldAddr s x f=>
  have e:=hE x (by simp [Op.operands]);simp only [Iq,Ci,e] at h ⊢;generalize CB C env x=xv at h ⊢;generalize (C.ti s).kind=k1 at h ⊢;split at h
  ·split at h
   ·rename_i q hq
    split at h <;> first
     | (rename_i hb;exact ⟨_,_,h,.of fun _ _=>by rfl⟩)
     | cases h
   ·cases h
  ·cases h
 | field s x f=>
  have e:=hE x (by simp [Op.operands]);simp only [Iq,Ci,e] at h ⊢;generalize CB C env x=xv at h ⊢;generalize (C.ti s).kind=k1 at h ⊢;split at h
  ·split at h
   ·rename_i q hq;split at h;·rename_i u hu;exact ⟨_,_,h,.of fun _ _=>by rfl⟩
    ·cases h
   ·cases h
  ·cases h
 | indexAddr t x i=>
  have e1:=hE x (by simp [Op.operands]);have e2:=hE i (by simp [Op.operands]);simp only [Iq,Ci,e1,e2] at h ⊢;generalize CB C env x=xv at h ⊢;generalize CB C env i=iv at h ⊢;generalize (C.ti t).kind=k1 at h ⊢;split at h
  ·split at h
   ·rename_i hl;split at h
    ·rename_i hb;obtain ⟨h1,h2⟩:=AyE h
     exact ⟨_,_,h2,.of fun _ _=>by simp only [(hH rfl).1.look hl (by simp),hb,h1];rfl⟩
    ·cases h
   ·rename_i hl;split at h
    ·rename_i hb;obtain ⟨h1,h2⟩:=AyE h
     exact ⟨_,_,h2,.of fun _ _=>by simp only [(hH rfl).1.look hl (by simp),hb,h1];rfl⟩
    ·cases h
   ·cases h
  ·split at h
   ·rename_i hl;split at h
    ·rename_i hb;obtain ⟨h1,h2⟩:=AyE h
     exact ⟨_,_,h2,.of fun _ _=>by simp only [(hH rfl).1.look hl (by simp),hb,h1];rfl⟩
    ·cases h
   ·cases h
  ·split at h
   ·rename_i hb;obtain ⟨h1,h2⟩:=AyE h
    exact ⟨_,_,h2,.of fun _ _=>by simp only [hb,h1];rfl⟩
   ·cases h
  ·split at h
   ·rename_i hk;obtain ⟨h1,h2⟩:=AyE h
    exact ⟨_,_,h2,.of fun _ _=>by simp only [h1];rfl⟩
   ·cases h
  ·split at h
   ·rename_i hl;split at h
    ·rename_i hb1;obtain ⟨hb2,h⟩:=AyE h
     obtain ⟨h1,h2⟩:=AyE h
     exact ⟨_,_,h2,.of fun _ _=>by simp only [(hH rfl).1.look hl (by simp),hb1,hb2,h1];rfl⟩
    ·cases h
   ·cases h
  ·split at h
   ·rename_i hb1 hb2;obtain ⟨h1,h2⟩:=AyE h
    exact ⟨_,_,h2,.of fun _ _=>by simp only [hb1,hb2,h1];rfl⟩
   ·cases h
  ·cases h
 | index t x i=>
  have e1:=hE x (by simp [Op.operands]);have e2:=hE i (by simp [Op.operands]);simp only [Iq,Ci,e1,e2] at h ⊢;generalize CB C env x=xv at h ⊢;generalize CB C env i=iv at h ⊢;generalize (C.ti t).kind=k1 at h ⊢;split at h
  ·obtain ⟨h1,h2⟩:=AyE h
   exact ⟨_,_,h2,.of fun _ _=>by simp only [h1];rfl⟩
  ·split at h
   ·rename_i hb1 hb3 hb4;obtain ⟨hb2,h⟩:=AyE h
    obtain ⟨h1,h2⟩:=AyE h
    exact ⟨_,_,h2,.of fun _ _=>by simp only [hb1,hb2,hb3,hb4,h1];rfl⟩
   ·cases h
  ·cases h
 | makeSlice t x y=>
  have e1:=hE x (by simp [Op.operands]);have e2:=hE y (by simp [Op.operands]);simp only [Iq,Ci,e1,e2] at h ⊢;generalize CB C env x=xv at h ⊢;generalize CB C env y=iv at h ⊢;generalize (C.ti t).kind=k1 at h ⊢;split at h
  ·obtain ⟨h1,h2⟩:=AyE h
   obtain ⟨h3,h4⟩:=QB h2
   exact ⟨_,_,h4,.of fun _ _=>by simp only [h1];exact UJ (hF rfl 0 h3) _ _⟩
  ·cases h
 | slice t x lo hi mx=>
  cases mx with
  | some _=>simp [Ci] at h
  | none=>
   have e1:=hE x (by simp [Op.operands]);have e2:lo.map (CB C env')=lo.map (CB C env):=by cases lo<;>simp_all [Op.operands]
   have e3:hi.map (CB C env')=hi.map (CB C env):=by cases hi<;>simp_all [Op.operands]
   simp only [Iq,Ci,e1,e2,e3] at h ⊢;generalize CB C env x=xv at h ⊢;generalize (C.ti t).kind=k1 at h ⊢;split at h
   ·obtain ⟨a,b,h1,h2⟩:=AJ9 h
    exact ⟨_,_,h1,.of fun _ _=>h2 _ _⟩
   ·split at h
    ·rename_i hb;obtain ⟨a,b,h1,h2⟩:=AJ9 h
     exact ⟨_,_,h1,.of fun _ _=>by simp_all⟩
    ·cases h
   ·split at h
    ·rename_i hl;split at h
     ·rename_i hb;obtain ⟨a,b,h1,h2⟩:=AJ9 h
      exact ⟨_,_,h1,.of fun _ _=>by simp only [(hH rfl).1.look hl (by simp),hb];simp_all⟩
     ·cases h
    ·cases h
   ·split at h
    ·rename_i hl;split at h
     ·rename_i hb;obtain ⟨a,b,h1,h2⟩:=AJ9 h
      exact ⟨_,_,h1,.of fun _ _=>by simp only [(hH rfl).1.look hl (by simp),hb];grind⟩
     ·cases h
    ·cases h
   ·cases h
 | extract x i=>
  have e:=hE x (by simp [Op.operands]);simp only [Iq,Ci,e] at h ⊢;generalize CB C env x=xv at h ⊢;split at h;·cases h
  ·rename_i n1;split at h;·rename_i u hu;refine ⟨_,_,h,.of fun _ K'=>?_⟩;rfl
   ·cases h
 | makeFunc fn first captured=>
  cases fn with
  | func f=>
   simp only [Iq,Ci] at h ⊢;split at h;·exact ⟨_,_,h,.of fun _ _=>rfl⟩
   ·cases h
  | _=>simp [Ci] at h
 | call c=>
  obtain ⟨callee,args,argTypes⟩:=c
  have e:vals C env' args.toList=vals C env args.toList:=As6 (fun x hx=>hE x (by
   simp_all [Op.operands,Call.operands]))
  cases callee with
  | builtin b=>
   cases b with
   | len=>
    simp only [Iq,Ci,e] at h ⊢;generalize vals C env args.toList=vs at h ⊢;generalize (C.ti (argTypes.getD 0 0)).kind=k at h ⊢;split at h;·cases h
    ·split at h;·exact ⟨_,_,h,.of fun _ _=>rfl⟩
     ·split at h;·rename_i n hn;exact ⟨_,_,h,.of fun _ _=>by simp only [AtF (hH rfl).1 hn]⟩
      ·cases h
     ·exact ⟨_,_,h,.of fun _ _=>rfl⟩
     ·cases h
   | min=>
    simp only [Iq,Ci,e] at h ⊢;generalize vals C env args.toList=vs at h ⊢;split at h
    ·split at h;·rename_i hk;exact ⟨_,_,h,.of fun _ _=>by rfl⟩
     ·cases h
    ·cases h
   | max=>
    simp only [Iq,Ci,e] at h ⊢;generalize vals C env args.toList=vs at h ⊢;split at h
    ·split at h;·rename_i hk;exact ⟨_,_,h,.of fun _ _=>by rfl⟩
     ·cases h
    ·cases h
   | append=>
    simp only [Iq,Ci,e] at h ⊢;generalize vals C env args.toList=vs at h ⊢;generalize (C.ti (argTypes.getD 0 0)).kind=k at h ⊢;generalize AT5 C (argTypes.getD 1 0)=so at h ⊢;split at h;·cases h
    ·split at h
     ·split at h
      ·rename_i ys hy;have hy':=AtG (hH rfl).1 hy;split at h
       ·obtain ⟨h1,h2⟩:=AyE h
        obtain ⟨h3,h4⟩:=QB h2
        exact ⟨_,_,h4,.of fun _ _=>by simp only [hy',h1];exact UJ (hF rfl 0 h3) _ _⟩
       ·split at h
        ·rename_i hl;split at h
         ·rename_i xs hc;obtain ⟨h1,h2⟩:=AyE h
          obtain ⟨h3,h4⟩:=QB h2
          exact ⟨_,_,h4,.of fun _ _=>by simp only [hy',(hH rfl).1.look hl (by simp),hc,h1];exact UJ (hF rfl 0 h3) _ _⟩
         ·cases h
        ·cases h
       ·split at h
        ·rename_i hl;split at h
         ·rename_i xs hc;split at h
          ·obtain ⟨h1,h2⟩:=AyE h
           obtain ⟨h3,h4⟩:=QB h2
           exact ⟨_,_,h4,.of fun _ _=>by simp only [hy',(hH rfl).1.look hl (by simp),hc,h1];exact UJ (hF rfl 0 h3) _ _⟩
          ·obtain ⟨h1,h2⟩:=AyE h
           exact ⟨_,_,h2,.of fun _ _=>by simp only [hy',(hH rfl).1.look hl (by simp),hc,h1];rfl⟩
         ·cases h
        ·cases h
       ·cases h
      ·cases h
     ·cases h
   | _=>simp [Ci] at h
  | value f=>
   cases f with
   | func g=>
    simp only [Iq,Ci] at h ⊢;exact Ace hcall e (hH rfl).1 (hG rfl) h
   | tmp t=>
    have et:=hE (.tmp t) (by simp [Op.operands,Call.operands]);simp only [Iq,Ci,et] at h ⊢;split at h
    ·obtain ⟨h1,h2⟩:=Acg h
     obtain ⟨v,q,h3,h4⟩:=Ace hcall e (hH rfl).1 (hG rfl) h1
     exact ⟨v,q,h3,h4.mono fun k h4 K'=>by simp_all⟩
    ·cases h
   | _=>simp [Ci] at h
  | invoke _ _=>simp [Ci] at h
 | _=>simp [Ci] at h
theorem AcX {d:Nat} {op:Op} {K:Val C.El->Hp C->Option γ} (hcall:AEM call) (hE:∀ x,x ∈ op.operands->CB C env' x=CB C env x)
  (hH:touches op=true->Le hp hp'/\∀ i,i / 64=d->Bj hp' i=true->Bj hp i=true) (h:Ci C P AC call env hp d op K none=some r) :
  ∃ v h,K v h=some r/\∀ K':Val C.El->Hp C->Option γ,Ci C P AC call env' hp' d op K' none=K' v h:=by
 obtain ⟨v,h',h1,h2⟩:=ATu (call':=fun _=>call) hcall hE hH h
 exact ⟨v,h',h1,h2.now⟩
end
end Go.Ev
