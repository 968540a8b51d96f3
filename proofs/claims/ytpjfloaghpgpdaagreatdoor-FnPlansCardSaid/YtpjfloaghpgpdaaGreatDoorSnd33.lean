/- An operation that sees more does the same: all operations. -/
import Derived.Test.YtpjfloaghpgpdaaGreatDoorSnd32
namespace Go.Ev
set_option linter.unusedVariables false
set_option linter.unusedSimpArgs false
open Go
section
variable {C:Ctx} {P:Program} {hp hp':Hp C} {γ:Type} {env env':Env C} {nres:Nat→Nat} {call:Nat→List (U C.El)→(List (U C.El)→Option γ)→Option γ} {r:γ}
theorem OD {R:Type} {d:Nat} (h:BA hp (site d 0)=false) (k f:R):fresh C hp d k f=k:=by simp [fresh,h]
theorem JQ {op:BinOp} {t:Nat} {x y:Val C.El} {K:Val C.El→Option γ} (h:TD C op t x y K none=some r):∃ v,K v=some r∧∀ (γ':Type) (K':Val C.El→Option γ'),TD C op t x y K' none=K' v:=by
 cases op <;> unfold TD at h <;> split at h <;> first
  | (cases h;done)
  | (rename_i h0;cases h0;done)
  | (obtain ⟨h1,h2⟩:=XA h;refine ⟨_,h2,fun γ' K'=>?_⟩;simp only [TD,h1];rfl)
  | (split at h <;> first
    | (cases h;done)
    | (rename_i hk hl;refine ⟨_,h,fun γ' K'=>?_⟩;simp only [TD,hk,hl];done)
    | (rename_i hl;refine ⟨_,h,fun γ' K'=>?_⟩;simp_all [TD])
    | (rename_i hl;obtain ⟨h1,h2⟩:=XA h;refine ⟨_,h2,fun γ' K'=>?_⟩;simp only [TD,hl,h1];rfl)
    | (rename_i h0 _ _;cases h0;done)
    | (exfalso;simp_all;done))
  | (exfalso;simp_all;done)
theorem UH {lo hi:Option (Val C.El)} {n:Nat} {k:Nat→Nat→Option γ} (h:cutAt C lo hi n k none=some r):∃ a b,k a b=some r∧∀ (γ':Type) (k':Nat→Nat→Option γ'),cutAt C lo hi n k' none=k' a b:=by
 unfold cutAt at h
 split at h
 ·exact ⟨_,_,h,fun γ' k'=>rfl⟩
 ·obtain ⟨h1,h2⟩:=XA h;exact ⟨_,_,h2,fun γ' K'=>by simp only [cutAt,h1];rfl⟩
 ·obtain ⟨h1,h2⟩:=XA h;exact ⟨_,_,h2,fun γ' K'=>by simp only [cutAt,h1];rfl⟩
 ·obtain ⟨h1,h2⟩:=XA h;exact ⟨_,_,h2,fun γ' K'=>by simp only [cutAt,h1];rfl⟩
 ·cases h
theorem KQ {l:List Operand} (h:∀ x,x ∈ l→opd C env' x=opd C env x):vals C env' l=vals C env l:=by
 induction l<;>simp_all [vals]
theorem VL {l:List (Nat×Operand)} (h:∀ x,x ∈ l→opd C env' x.2=opd C env x.2):parts C env' l=parts C env l:=by
 induction l<;>simp_all [parts]
def Evt (Q:Nat→Prop):Prop:=∃ N,∀ k,N≤k→Q k
theorem Evt.of {Q:Nat→Prop} (h:∀ k,Q k):Evt Q:=⟨0,fun k _=>h k⟩
theorem Evt.mono {Q R:Nat→Prop} (h:Evt Q) (hr:∀ k,Q k→R k):Evt R:=⟨h.choose,fun k hk=>hr k (h.choose_spec k hk)⟩
theorem Evt.and {Q R:Nat→Prop} (h:Evt Q) (h':Evt R):Evt fun k=>Q k∧R k:=by
 obtain ⟨N,hN⟩:=h
 obtain ⟨M,hM⟩:=h'
 exact ⟨max N M,fun k hk=>⟨hN k (by omega),hM k (by omega)⟩⟩
theorem Evt.now {Q:Prop} (h:Evt fun _=>Q):Q:=h.choose_spec h.choose (Nat.le_refl _)
theorem Evt.imp {Q R:Nat→Prop} (h:∀ k,Q k→R k):Evt Q→Evt R:=fun e=>e.mono h
def IG {γ γ':Type} (call:Nat→List (U C.El)→(List (U C.El)→Option γ)→Option γ) (call':Nat→Nat→List (U C.El)→(List (U C.El)→Option γ')→Option γ'):Prop:=
 ∀ (g:Nat) (us:List (U C.El)) (F:List (U C.El)→Option γ) (r:γ),call g us F=some r→∃ rs,F rs=some r∧Evt fun k=>∀ F':List (U C.El)→Option γ',call' k g us F'=F' rs
abbrev TG (call:Nat→List (U C.El)→(List (U C.El)→Option γ)→Option γ):Prop:=IG call (fun _=>call)
theorem LQ (k:Nat):TG (callOf C P k):=by
 intro g us F r h
 obtain ⟨rs,h1,h2⟩:=Option.bind_eq_some_iff.1 h
 exact ⟨rs,h2,.of fun _ F'=>by show (evF C P k g us).bind F'=_;simp_all⟩
def CB (C:Ctx) (P:Program) {γ γ':Type} (nres:Nat→Nat) (call':Nat→Nat→List (U C.El)→(List (U C.El)→Option γ')→Option γ') (env':Env C) (hp':Hp C) (d:Nat) (op:Op) (K:Val C.El→Hp C→Option γ) (r:γ):Prop:=
 ∃ v h,K v h=some r∧Evt fun k=>∀ K':Val C.El→Hp C→Option γ',evOp C P nres (call' k) env' hp' d op K' none=K' v h
theorem LY {γ':Type} {call':Nat→Nat→List (U C.El)→(List (U C.El)→Option γ')→Option γ'} {d g:Nat} {args:Array Operand} {K:Val C.El→Hp C→Option γ} (hcall:IG call call') (e:vals C env' args.toList=vals C env args.toList)
  (hLe:Le hp hp') (hG:∀ i,i / 64=d→BA hp i=false→BA hp' i=false) (h:JY C P nres call env hp d g args K none=some r) :
  ∃ v h,K v h=some r∧Evt fun k=>∀ K':Val C.El→Hp C→Option γ',JY C P nres (call' k) env' hp' d g args K' none=K' v h:=by
 simp only [JY,e] at h ⊢
 generalize vals C env args.toList=vs at h ⊢
 split at h
 ·cases h
 ·split at h
  ·rename_i q hq
   simp only [SQ hLe _ _ _ _ hq]
   split at h
   ·rename_i us hnd hh
    simp only [hnd,TQ (hLe.app _) _ _ _ _ hh]
    obtain ⟨rs,h1,h2⟩:=hcall _ _ _ _ h
    split at h1
    ·rename_i hb hback
     split at h1
     ·rename_i hfr
      refine ⟨_,_,h1,h2.mono fun k h2 K'=>?_⟩
      grind [UQ,Nat.eq_of_beq_eq_true]
     simp_all
    simp_all
   ·cases h
  ·cases h
theorem XJ {γ':Type} {call':Nat→Nat→List (U C.El)→(List (U C.El)→Option γ')→Option γ'} {d:Nat} {op:Op} {K:Val C.El→Hp C→Option γ} (hcall:IG call call') (hE:∀ x,x ∈ op.operands→opd C env' x=opd C env x)
  (hH:touches op=true→Le hp hp'∧∀ i,i / 64=d→BA hp' i=true→BA hp i=true) (h:evOp C P nres call env hp d op K none=some r):CB C P nres call' env' hp' d op K r:=by
 have hG:touches op=true→∀ i,i / 64=d→BA hp i=false→BA hp' i=false:=fun ht i hi hb=>by
  grind
 have hF:touches op=true→∀ (j:Nat),BA hp (site d 0)=false→BA hp' (site d 0)=false:=fun ht j hb=>hG ht _ (by simp [site]) hb
 cases op with
 | move x=>
  have e:=hE x (by simp [Op.operands])
  simp only [CB,evOp,e] at h ⊢
  exact ⟨_,_,h,.of fun _ _=>rfl⟩
 | assign x=>
  have e:=hE x (by simp [Op.operands])
  simp only [CB,evOp,e] at h ⊢
  exact ⟨_,_,h,.of fun _ _=>rfl⟩
 | pick c x y=>
  have e1:=hE c (by simp [Op.operands])
  have e2:=hE x (by simp [Op.operands])
  have e3:=hE y (by simp [Op.operands])
  simp only [CB,evOp,e1,e2,e3] at h ⊢
  generalize opd C env c=cv at h ⊢
  split at h
  ·rename_i p
   cases p
   ·exact ⟨_,_,h,.of fun _ _=>rfl⟩
   ·exact ⟨_,_,h,.of fun _ _=>rfl⟩
  ·cases h
 | alloc t=>
  simp only [CB,evOp] at h ⊢
  generalize (C.ti t).kind=k at h ⊢
  split at h
  ·obtain ⟨h1,h2⟩:=QB h
   exact ⟨_,_,h2,.of fun _ _=>OD (hF rfl 0 h1) _ _⟩
  ·cases h
  ·rename_i n1 n2
   obtain ⟨h1,h2⟩:=QB h
   exact ⟨_,_,h2,.of fun _ _=>OD (hF rfl 0 h1) _ _⟩
 | box t x=>
  have e:=hE x (by simp [Op.operands])
  simp only [CB,evOp,e] at h ⊢
  generalize opd C env x=xv at h ⊢
  split at h
  ·obtain ⟨h1,h2⟩:=QB h
   exact ⟨_,_,h2,.of fun _ _=>OD (hF rfl 0 h1) _ _⟩
  ·rename_i u hne
   split at h
   ·rename_i hj
    obtain ⟨h1,h2⟩:=QB h
    refine ⟨_,_,h2,.of fun _ K'=>?_⟩
    cases u with
    | arr e xs=>grind
    | _=>first | exact OD (hF rfl 0 h1) _ _ | (simp only [hj];exact OD (hF rfl 0 h1) _ _)
   ·cases h
  ·cases h
 | build t ps=>
  have e:parts C env' ps.toList=parts C env ps.toList:=VL (fun p hp'=>hE p.2 (by grind [Op.operands]))
  simp only [CB,evOp,e] at h ⊢
  generalize (C.ti t).kind=k at h ⊢
  split at h
  ·split at h
   ·rename_i cs hc
    exact ⟨_,_,h,.of fun _ _=>rfl⟩
   ·cases h
  ·split at h
   ·rename_i q hq hpl
    refine ⟨_,_,h,.of fun _ _=>?_⟩
    rw [WL (hH rfl).1 _ _ _ _ hq,hpl]
   ·cases h
  ·cases h
 | buildSlice t n ps=>
  have e:parts C env' ps.toList=parts C env ps.toList:=VL (fun p hp'=>hE p.2 (by grind [Op.operands]))
  simp only [CB,evOp,e] at h ⊢
  generalize (C.ti t).kind=k at h ⊢
  split at h
  ·split at h
   ·rename_i q hq
    obtain ⟨h1,h2⟩:=XA h
    obtain ⟨h3,h4⟩:=QB h2
    refine ⟨_,_,h4,.of fun _ _=>?_⟩
    have hb:BA (q.2++hp') (site d 0)=false:=by
     rw [PE] at h3 ⊢
     rw [Bool.or_eq_false_iff] at h3 ⊢
     exact ⟨h3.1,hF rfl 0 h3.2⟩
    rw [WL (hH rfl).1 _ _ _ _ hq]
    simp only [h1]
    exact OD hb _ _
   ·cases h
  ·cases h
 | load t x=>
  have e:=hE x (by simp [Op.operands])
  simp only [CB,evOp,e] at h ⊢
  generalize opd C env x=xv at h ⊢
  split at h
  ·rename_i l
   replace h:=(VH (C:=C) (hp:=hp) (t:=t) (l:=l) (F:=fun u=>K [u] []) (fail:=none)).symm.trans h
   split at h
   ·rename_i u hu
    refine ⟨_,_,h,.of fun _ _=>(VH (C:=C) (F:=fun u=>_)).trans ?_⟩
    simp only [MQ (hH rfl).1 hu]
   ·cases h
  ·cases h
 | store t x y=>
  have e1:=hE x (by simp [Op.operands])
  have e2:=hE y (by simp [Op.operands])
  simp only [CB,evOp,e1,e2] at h ⊢
  generalize opd C env x=xv at h ⊢
  generalize opd C env y=yv at h ⊢
  split at h
  ·rename_i l u0
   replace h:=(YJ (C:=C) (hp:=hp) (t:=t) (l:=l) (u:=u0) (F:=fun h=>K [.one .junk] h) (fail:=none)).symm.trans h
   split at h
   ·rename_i u hu
    refine ⟨_,_,h,.of fun _ _=>(YJ (C:=C) (F:=fun h=>_)).trans ?_⟩
    simp only [NQ (hH rfl).1 hu]
   ·cases h
  ·cases h
 | nilCheck x=>
  have e:=hE x (by simp [Op.operands])
  simp only [CB,evOp,e] at h ⊢
  generalize opd C env x=xv at h ⊢
  split at h <;> first
   | exact ⟨_,_,h,.of fun _ _=>rfl⟩
   | cases h
 | binOp op t x y t'=>
  have e1:=hE x (by simp [Op.operands])
  have e2:=hE y (by simp [Op.operands])
  simp only [CB,evOp,e1,e2] at h ⊢
  split at h
  ·rename_i b hb
   exact ⟨_,_,h,.of fun _ _=>by rfl⟩
  rename_i hb
  obtain ⟨v,h1,h2⟩:=JQ h
  exact ⟨v,[],h1,.of fun _ K'=>h2 _ (fun v=>K' v [])⟩
 | unOp op t x=>
  have e:=hE x (by simp [Op.operands])
  simp only [CB,evOp,e] at h ⊢
  generalize opd C env x=xv at h ⊢
  split at h <;> first
   | exact ⟨_,_,h,.of fun _ _=>rfl⟩
   | cases h
 | convert s t x=>
  have e:=hE x (by simp [Op.operands])
  simp only [CB,evOp,e] at h ⊢
  generalize opd C env x=xv at h ⊢
  generalize (C.ti s).kind=k1 at h ⊢
  generalize (C.ti t).kind=k2 at h ⊢
  split at h
  ·exact ⟨_,_,h,.of fun _ _=>rfl⟩
  ·exact ⟨_,_,h,.of fun _ _=>rfl⟩
  ·split at h
   ·rename_i h1 h2 h3
    obtain ⟨h4,h5⟩:=XA h
    obtain ⟨h6,h7⟩:=QB h5
    refine ⟨_,_,h7,.of fun _ _=>?_⟩
    simp only [h2,h3,h4]
    exact OD (hF rfl 0 h6) _ _
   ·cases h
  ·split at h
   ·rename_i h1 xs h2 h3 h4
    refine ⟨_,_,h,.of fun _ _=>?_⟩
    simp only [h2,h3,ZJ (hH rfl).1 h4]
   ·cases h
  ·cases h
 | fieldAddr s x f=>
  have e:=hE x (by simp [Op.operands])
  simp only [CB,evOp,e] at h ⊢
  generalize opd C env x=xv at h ⊢
  generalize (C.ti s).kind=k1 at h ⊢
  split at h
  ·split at h
   ·rename_i q hq
    split at h <;> first
     | (rename_i hb;exact ⟨_,_,h,.of fun _ _=>by rfl⟩)
     | cases h
   ·cases h
  ·cases h
 | field s x f=>
  have e:=hE x (by simp [Op.operands])
  simp only [CB,evOp,e] at h ⊢
  generalize opd C env x=xv at h ⊢
  generalize (C.ti s).kind=k1 at h ⊢
  split at h
  ·split at h
   ·rename_i q hq
    split at h
    ·rename_i u hu;exact ⟨_,_,h,.of fun _ _=>by rfl⟩
    ·cases h
   ·cases h
  ·cases h
 | indexAddr t x i=>
  have e1:=hE x (by simp [Op.operands])
  have e2:=hE i (by simp [Op.operands])
  simp only [CB,evOp,e1,e2] at h ⊢
  generalize opd C env x=xv at h ⊢
  generalize opd C env i=iv at h ⊢
  generalize (C.ti t).kind=k1 at h ⊢
  split at h
  ·split at h
   ·rename_i hl
    split at h
    ·rename_i hb
     obtain ⟨h1,h2⟩:=XA h
     exact ⟨_,_,h2,.of fun _ _=>by simp only [(hH rfl).1.look hl (by simp),hb,h1];rfl⟩
    ·cases h
   ·rename_i hl
    split at h
    ·rename_i hb
     obtain ⟨h1,h2⟩:=XA h
     exact ⟨_,_,h2,.of fun _ _=>by simp only [(hH rfl).1.look hl (by simp),hb,h1];rfl⟩
    ·cases h
   ·cases h
  ·split at h
   ·rename_i hl
    split at h
    ·rename_i hb
     obtain ⟨h1,h2⟩:=XA h
     exact ⟨_,_,h2,.of fun _ _=>by simp only [(hH rfl).1.look hl (by simp),hb,h1];rfl⟩
    ·cases h
   ·cases h
  ·split at h
   ·rename_i hb
    obtain ⟨h1,h2⟩:=XA h
    exact ⟨_,_,h2,.of fun _ _=>by simp only [hb,h1];rfl⟩
   ·cases h
  ·split at h
   ·rename_i hk
    obtain ⟨h1,h2⟩:=XA h
    exact ⟨_,_,h2,.of fun _ _=>by simp only [h1];rfl⟩
   ·cases h
  ·split at h
   ·rename_i hl
    split at h
    ·rename_i hb1
     obtain ⟨hb2,h⟩:=XA h
     obtain ⟨h1,h2⟩:=XA h
     exact ⟨_,_,h2,.of fun _ _=>by simp only [(hH rfl).1.look hl (by simp),hb1,hb2,h1];rfl⟩
    ·cases h
   ·cases h
  ·split at h
   ·rename_i hb1 hb2
    obtain ⟨h1,h2⟩:=XA h
    exact ⟨_,_,h2,.of fun _ _=>by simp only [hb1,hb2,h1];rfl⟩
   ·cases h
  ·cases h
 | index t x i=>
  have e1:=hE x (by simp [Op.operands])
  have e2:=hE i (by simp [Op.operands])
  simp only [CB,evOp,e1,e2] at h ⊢
  generalize opd C env x=xv at h ⊢
  generalize opd C env i=iv at h ⊢
  generalize (C.ti t).kind=k1 at h ⊢
  split at h
  ·obtain ⟨h1,h2⟩:=XA h
   exact ⟨_,_,h2,.of fun _ _=>by simp only [h1];rfl⟩
  ·split at h
   ·rename_i hb1 hb3 hb4
    obtain ⟨hb2,h⟩:=XA h
    obtain ⟨h1,h2⟩:=XA h
    exact ⟨_,_,h2,.of fun _ _=>by simp only [hb1,hb2,hb3,hb4,h1];rfl⟩
   ·cases h
  ·cases h
 | makeSlice t x y=>
  have e1:=hE x (by simp [Op.operands])
  have e2:=hE y (by simp [Op.operands])
  simp only [CB,evOp,e1,e2] at h ⊢
  generalize opd C env x=xv at h ⊢
  generalize opd C env y=iv at h ⊢
  generalize (C.ti t).kind=k1 at h ⊢
  split at h
  ·obtain ⟨h1,h2⟩:=XA h
   obtain ⟨h3,h4⟩:=QB h2
   exact ⟨_,_,h4,.of fun _ _=>by simp only [h1];exact OD (hF rfl 0 h3) _ _⟩
  ·cases h
 | slice t x lo hi mx=>
  cases mx with
  | some _=>simp [evOp] at h
  | none=>
   have e1:=hE x (by simp [Op.operands])
   have e2:lo.map (opd C env')=lo.map (opd C env):=by
    cases lo<;>simp_all [Op.operands]
   have e3:hi.map (opd C env')=hi.map (opd C env):=by
    cases hi<;>simp_all [Op.operands]
   simp only [CB,evOp,e1,e2,e3] at h ⊢
   generalize opd C env x=xv at h ⊢
   generalize (C.ti t).kind=k1 at h ⊢
   split at h
   ·obtain ⟨a,b,h1,h2⟩:=UH h
    exact ⟨_,_,h1,.of fun _ _=>h2 _ _⟩
   ·split at h
    ·rename_i hb
     obtain ⟨a,b,h1,h2⟩:=UH h
     exact ⟨_,_,h1,.of fun _ _=>by simp_all⟩
    ·cases h
   ·split at h
    ·rename_i hl
     split at h
     ·rename_i hb
      obtain ⟨a,b,h1,h2⟩:=UH h
      exact ⟨_,_,h1,.of fun _ _=>by simp only [(hH rfl).1.look hl (by simp),hb];simp_all⟩
     ·cases h
    ·cases h
   ·split at h
    ·rename_i hl
     split at h
     ·rename_i hb
      obtain ⟨a,b,h1,h2⟩:=UH h
      exact ⟨_,_,h1,.of fun _ _=>by simp only [(hH rfl).1.look hl (by simp),hb];grind⟩
     ·cases h
    ·cases h
   ·cases h
 | extract x i=>
  have e:=hE x (by simp [Op.operands])
  simp only [CB,evOp,e] at h ⊢
  generalize opd C env x=xv at h ⊢
  split at h
  ·cases h
  ·rename_i n1
   split at h
   ·rename_i u hu
    refine ⟨_,_,h,.of fun _ K'=>?_⟩
    rfl
   ·cases h
 | makeFunc fn first captured=>
  cases fn with
  | func f=>
   simp only [CB,evOp] at h ⊢
   split at h
   ·exact ⟨_,_,h,.of fun _ _=>rfl⟩
   ·cases h
  | _=>simp [evOp] at h
 | call c=>
  obtain ⟨callee,args,argTypes⟩:=c
  have e:vals C env' args.toList=vals C env args.toList:=KQ (fun x hx=>hE x (by
   simp_all [Op.operands,Call.operands]))
  cases callee with
  | builtin b=>
   cases b with
   | len=>
    simp only [CB,evOp,e] at h ⊢
    generalize vals C env args.toList=vs at h ⊢
    generalize (C.ti (argTypes.getD 0 0)).kind=k at h ⊢
    split at h
    ·cases h
    ·split at h
     ·exact ⟨_,_,h,.of fun _ _=>rfl⟩
     ·split at h
      ·rename_i n hn;exact ⟨_,_,h,.of fun _ _=>by simp only [OQ (hH rfl).1 hn]⟩
      ·cases h
     ·exact ⟨_,_,h,.of fun _ _=>rfl⟩
     ·cases h
   | min=>
    simp only [CB,evOp,e] at h ⊢
    generalize vals C env args.toList=vs at h ⊢
    split at h
    ·split at h
     ·rename_i hk;exact ⟨_,_,h,.of fun _ _=>by rfl⟩
     ·cases h
    ·cases h
   | max=>
    simp only [CB,evOp,e] at h ⊢
    generalize vals C env args.toList=vs at h ⊢
    split at h
    ·split at h
     ·rename_i hk;exact ⟨_,_,h,.of fun _ _=>by rfl⟩
     ·cases h
    ·cases h
   | append=>
    simp only [CB,evOp,e] at h ⊢
    generalize vals C env args.toList=vs at h ⊢
    generalize (C.ti (argTypes.getD 0 0)).kind=k at h ⊢
    generalize RJ C (argTypes.getD 1 0)=so at h ⊢
    split at h
    ·cases h
    ·split at h
     ·split at h
      ·rename_i ys hy
       have hy':=RQ (hH rfl).1 hy
       split at h
       ·obtain ⟨h1,h2⟩:=XA h
        obtain ⟨h3,h4⟩:=QB h2
        exact ⟨_,_,h4,.of fun _ _=>by simp only [hy',h1];exact OD (hF rfl 0 h3) _ _⟩
       ·split at h
        ·rename_i hl
         split at h
         ·rename_i xs hc
          obtain ⟨h1,h2⟩:=XA h
          obtain ⟨h3,h4⟩:=QB h2
          exact ⟨_,_,h4,.of fun _ _=>by simp only [hy',(hH rfl).1.look hl (by simp),hc,h1];exact OD (hF rfl 0 h3) _ _⟩
         ·cases h
        ·cases h
       ·split at h
        ·rename_i hl
         split at h
         ·rename_i xs hc
          split at h
          ·obtain ⟨h1,h2⟩:=XA h
           obtain ⟨h3,h4⟩:=QB h2
           exact ⟨_,_,h4,.of fun _ _=>by simp only [hy',(hH rfl).1.look hl (by simp),hc,h1];exact OD (hF rfl 0 h3) _ _⟩
          ·obtain ⟨h1,h2⟩:=XA h
           exact ⟨_,_,h2,.of fun _ _=>by simp only [hy',(hH rfl).1.look hl (by simp),hc,h1];rfl⟩
         ·cases h
        ·cases h
       ·cases h
      ·cases h
     ·cases h
   | _=>simp [evOp] at h
  | value f=>
   cases f with
   | func g=>
    simp only [CB,evOp] at h ⊢
    exact LY hcall e (hH rfl).1 (hG rfl) h
   | tmp t=>
    have et:=hE (.tmp t) (by simp [Op.operands,Call.operands])
    simp only [CB,evOp,et] at h ⊢
    split at h
    ·obtain ⟨h1,h2⟩:=NY h
     obtain ⟨v,q,h3,h4⟩:=LY hcall e (hH rfl).1 (hG rfl) h1
     exact ⟨v,q,h3,h4.mono fun k h4 K'=>by simp_all⟩
    ·cases h
   | _=>simp [evOp] at h
  | invoke _ _=>simp [evOp] at h
 | _=>simp [evOp] at h
theorem XL {d:Nat} {op:Op} {K:Val C.El→Hp C→Option γ} (hcall:TG call) (hE:∀ x,x ∈ op.operands→opd C env' x=opd C env x)
  (hH:touches op=true→Le hp hp'∧∀ i,i / 64=d→BA hp' i=true→BA hp i=true) (h:evOp C P nres call env hp d op K none=some r) :
  ∃ v h,K v h=some r∧∀ K':Val C.El→Hp C→Option γ,evOp C P nres call env' hp' d op K' none=K' v h:=by
 obtain ⟨v,h',h1,h2⟩:=XJ (call':=fun _=>call) hcall hE hH h
 exact ⟨v,h',h1,h2.now⟩
end
end Go.Ev
