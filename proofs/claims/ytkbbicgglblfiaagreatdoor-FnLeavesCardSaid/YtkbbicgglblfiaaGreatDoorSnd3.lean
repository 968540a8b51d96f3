/- What the evaluator tells of operations that turn no memory is what the machine does. -/
import Derived.Test.YtkbbicgglblfiaaGreatDoorSnd2
import Derived.Laws.StructEq
namespace Go.Ev
set_option linter.unusedVariables false
set_option linter.unusedSimpArgs false
open Go
section
variable {C:Ctx} {P:Program} {hp:Hp C} {AB:At} {w:World} {Ai:Nat->Prop} {w0:World} {Avn:Nat->Nat->Prop} {n:Nat} {env:Env C} {a:Act}
def After (C:Ctx) (w0:World) (Avn:Nat->Nat->Prop) (hp:Hp C) (AB:At) (w:World) (val:Val C.El) (h':Hp C) (v:Value) (w':World):Prop:=
 ∃ at2 AE,Mem C w0 Avn (h'++hp) at2 AE w'/\IB C (h'++hp) at2 w' (BK C (h'++hp) at2 w') val v/\UA hp (h'++hp) AB at2/\
  (∀ b,BK C hp AB w b->BK C (h'++hp) at2 w' b/\w'.heap[b]?=w.heap[b]?)/\Ext w w'
theorem After.same (m:Mem C w0 Avn hp AB Ai w) {val:Val C.El} {v:Value} (h:IB C hp AB w (BK C hp AB w) val v):After C w0 Avn hp AB w val [] v w:=
 ⟨AB,Ai,m,h,UA.refl _ _,fun b hb=>⟨hb,rfl⟩,Ext.refl w⟩
theorem Avs {o:Oper} {v:Value} {w':World} {next:Act->World->Prop} {Q:Exit->Act->World->Prop} (h:(execOp a.eval o).run P w=.ok (.value v) w') (hn:next (a.put o.dst v) w'):o.wp P a w next Q:=by unfold Oper.wp;rw [h];exact hn
theorem wp_skip {o:Oper} {w':World} {next:Act->World->Prop} {Q:Exit->Act->World->Prop} (h:(execOp a.eval o).run P w=.ok .skip w') (hn:next (a.put o.dst undef) w'):o.wp P a w next Q:=by unfold Oper.wp;rw [h];exact hn
def Sound (C:Ctx) (P:Program) {γ:Type} (w0:World) (Avn:Nat->Nat->Prop) (hp:Hp C) (AB:At) (a:Act) (w:World) (o:Oper) (K:Val C.El->Hp C->Option γ) (r:γ):Prop:=
 ∀ (next:Act->World->Prop) (Q:Exit->Act->World->Prop),(∀ val h' v w',K val h'=some r->After C w0 Avn hp AB w val h' v w'->next (a.put o.dst v) w')->o.wp P a w next Q
variable {γ:Type} {K:Val C.El->Hp C->Option γ} {r:γ} {o:Oper}
theorem Sound.val (m:Mem C w0 Avn hp AB Ai w) {val:Val C.El} {v:Value} (hk:K val []=some r) (hr:(execOp a.eval o).run P w=.ok (.value v) w) (h:IB C hp AB w (BK C hp AB w) val v) :
  Sound C P w0 Avn hp AB a w o K r:=fun next Q hn=>Avs hr (hn val [] v w hk (After.same m h))
theorem AyE {b:Bool} {x:Option γ} (h:when b x none=some r):b=true/\x=some r:=by
 cases b with
 | true=>exact ⟨rfl,h⟩
 | false=>cases h
abbrev ET (C:Ctx) (P:Program) {γ:Type} (AC:Nat->Nat) (call:Nat->List (U C.El)->(List (U C.El)->Option γ)->Option γ) (env:Env C) (hp:Hp C) (o:Oper) (K:Val C.El->Hp C->Option γ) (r:γ):Prop:=
 Ci C P AC call env hp (o.dst.getD 0) o.op K none=some r
variable {AC:Nat->Nat} {call:Nat->List (U C.El)->(List (U C.El)->Option γ)->Option γ}
theorem AuD (st:St C w0 Avn n env hp AB Ai a w) (x:Operand) (ho:o.op=.move x) (h:ET C P AC call env hp o K r):Sound C P w0 Avn hp AB a w o K r:=by unfold ET at h;rw [ho] at h;exact Sound.val st.mem h (by simp [execOp,ho]) (Awr st x)
theorem AuE (st:St C w0 Avn n env hp AB Ai a w) (x:Operand) (ho:o.op=.assign x) (h:ET C P AC call env hp o K r):Sound C P w0 Avn hp AB a w o K r:=by unfold ET at h;rw [ho] at h;exact Sound.val st.mem h (by simp [execOp,ho]) (Awr st x)
theorem AuF (st:St C w0 Avn n env hp AB Ai a w) (c x y:Operand) (ho:o.op=.pick c x y) (h:ET C P AC call env hp o K r):Sound C P w0 Avn hp AB a w o K r:=by
 unfold ET at h;rw [ho] at h;simp only [Ci] at h;have hc:=Awr st c;split at h
 ·rename_i p hp';rw [hp'] at hc;have hc:a.eval c=.bool p:=hc;cases p with
  | true=>exact Sound.val st.mem h (by simp_all [execOp,asBool]) (Awr st x)
  | false=>exact Sound.val st.mem h (by simp_all [execOp,asBool]) (Awr st y)
 ·cases h
theorem AuO (st:St C w0 Avn n env hp AB Ai a w) (op:UnOp) (t:TypeId) (x:Operand) (ho:o.op=.unOp op t x) (h:ET C P AC call env hp o K r):Sound C P w0 Avn hp AB a w o K r:=by
 unfold ET at h;rw [ho] at h;simp only [Ci] at h;have hx:=Awr st x;split at h;·rename_i hx';rw [hx'] at hx;have hx:a.eval x=_:=hx;exact Sound.val st.mem h (by simp_all [execOp,Op.unary]) rfl
 ·rename_i hx';rw [hx'] at hx;have hx:a.eval x=_:=hx;exact Sound.val st.mem h (by simp_all [execOp,Op.unary,Op.intArith]) rfl
 ·rename_i hx';rw [hx'] at hx;have hx:a.eval x=_:=hx;exact Sound.val st.mem h (by simp_all [execOp,Op.unary,Op.intBits]) rfl
 ·cases h
def AdE:Value->Value->Bool
 | .nilIface,.nilIface=>false
 | .agg _,.agg _=>false
 | _,_=>true
theorem Au0 {op:BinOp} {t:TypeId} {x y:Operand} {u v:Value} (h:AdE u v=true):(eqGuard op t x y u v).run P w=.ok () w:=by
 unfold eqGuard
 cases op <;> first
  | rfl
  | (cases u <;> cases v <;> first | rfl | cases h)
theorem AdF {t:TypeId} {x y:Bool} (hu:P.underlying t=some .bool):(Op.equal t (.bool x) (.bool y)).run P w=.ok (x == y) w:=by unfold Op.equal Op.maxDepth;rw [show (10000:Nat)=9999+1 from rfl];rw [Op.equalIn,Sem.run_bind,run_underlying hu];rfl
theorem Au1 {op:BinOp} {k:IntKind} {x y:Int} {l:L C.El} {t:TypeId} (h:AUU C op k x y=some l):∃ v,(binOp op t (.int k x) (.int k y)).run P w=.ok v w/\∀ ro,KA C hp AB w ro l v:=by
 cases op <;> simp only [AUU,Option.some.injEq] at h <;> first
  | (subst h;exact ⟨_,by simp [binOp,Op.intArith,Op.intBits,Op.intCmp,Op.stringOp];rfl,fun _=>rfl⟩)
  | (subst h;exact ⟨_,by simp [binOp,Op.intArith,Op.intBits,Op.intCmp,Op.stringOp],fun _=>rfl⟩)
  | simp_all
theorem Au2 {op:BinOp} {x y:AA} {l:L C.El} {t:TypeId} (h:AUW C op x y=some l):∃ v,(binOp op t (.string x) (.string y)).run P w=.ok v w/\∀ ro,KA C hp AB w ro l v:=by
 cases op <;> simp only [AUW,Option.some.injEq] at h <;> first
  | (subst h;exact ⟨_,by rfl,fun _=>rfl⟩)
  | (subst h;exact ⟨_,by rfl,fun _=>rfl⟩)
  | (exact absurd h (by simp))
theorem Au3 (hC:EW C P) {ro:Nat->Prop} {d D:Nat} (hd:∀ (t:Nat) (u v:U C.El) (b:Bool) (x y:Value),Wv C P d t u v=some b->AzR C hp AB w ro u x->AzR C hp AB w ro v y->(Op.equalIn D t x y).run P w=.ok b w) {xs ys:List (L C.El)} {ax Avt:Array Value} (hx:AzR C hp AB w ro (.agg xs) (.agg ax)) (hy:AzR C hp AB w ro (.agg ys) (.agg Avt)) :
  ∀ (fs:List Field) (b:Bool),vw C (Wv C P d) xs ys fs=some b->(Op.eqFields D ax Avt fs).run P w=.ok b w:=by
 intro fs;induction fs with
 | nil=>intro b h;simp only [vw,Option.some.injEq] at h;subst h;rfl
 | cons f fs ih=>
  intro b h;simp only [vw] at h;rw [Op.eqFields];split at h;·simp_all
  ·rename_i hn;have hn':f.name≠ "_":=by simp_all
   rw [if_pos hn'];split at h
   ·rename_i u v hu hv;split at h
    ·rename_i b1 r1 h1 h2;cases h;obtain ⟨arr,e1,g1,g2⟩:=hx
     cases e1;obtain ⟨arr',e2,g3,g4⟩:=hy
     cases e2;obtain ⟨x,k1,k2⟩:=AUT hC hu g1 g2
     obtain ⟨y,k3,k4⟩:=AUT hC hv g3 g4
     simp only [Sem.run_bind,k1,k3,Result.andThen_ok,hd _ _ _ _ _ _ h1 k2 k4];cases b1;all_goals simp_all
    ·cases h
   ·cases h
theorem Au4 (hC:EW C P) {ro:Nat->Prop}:∀ (d:Nat) (D:Nat) (t:Nat) (u v:U C.El) (b:Bool) (x y:Value),Wv C P d t u v=some b->AzR C hp AB w ro u x->AzR C hp AB w ro v y->(Op.equalIn (D+d) t x y).run P w=.ok b w:=by
 intro d;induction d with
 | zero=>simp [Wv]
 | succ d ih=>
  intro D t u v b x y h hx hy;simp only [Wv] at h;split at h
  ·rename_i xs ys;split at h
   ·rename_i fs hu hs;obtain ⟨ax,rfl,g1,g2⟩:=hx
    obtain ⟨Avt,rfl,g3,g4⟩:=hy
    have hf:P.fieldsOf t=fs:=by simp [Program.fieldsOf,hu]
    rw [show D+(d+1)=(D+d)+1 by omega,run_equalIn_struct (P:=P) w (D+d) t ax Avt (by simp_all) hs,hf];exact Au3 hC (fun t u v b x y=>ih D t u v b x y) ⟨ax,rfl,g1,g2⟩ ⟨Avt,rfl,g3,g4⟩ _ _ h
   ·cases h
  ·split at h;·rename_i hu hk;have hk:=of_decide_eq_true hk;subst hk;cases h;have hx:x=_:=hx;have hy:y=_:=hy;grind [run_equalIn_int]
   ·cases h
  ·split at h;·rename_i hu;cases h;have hx:x=_:=hx;have hy:y=_:=hy;grind [run_equalIn_bool']
   ·cases h
  ·split at h;·rename_i hu;cases h;have hx:x=_:=hx;have hy:y=_:=hy;grind [run_equalIn_string]
   ·cases h
  ·cases h
theorem AuN (hC:EW C P) (st:St C w0 Avn n env hp AB Ai a w) (op:BinOp) (t t':TypeId) (x y:Operand) (ho:o.op=.binOp op t x y t') (h:ET C P AC call env hp o K r):Sound C P w0 Avn hp AB a w o K r:=by
 unfold ET at h;rw [ho] at h;simp only [Ci] at h;have hx:=Awr st x;have hy:=Awr st y;generalize CB C env x=xv at h hx;generalize CB C env y=yv at h hy;have run:∀ {v u u'},a.eval x=u->a.eval y=u'->AdE u u'=true->(binOp op t u u').run P w=.ok v w->(execOp a.eval o).run P w=.ok (.value v) w:=by simp_all [execOp,Au0]
 split at h
 ·rename_i b hagg;unfold AdG at hagg;split at hagg
  ·rename_i xs ys;obtain ⟨ax,ex,g1,g2⟩:=hx
   obtain ⟨Avt,ey,g3,g4⟩:=hy
   have guard:∀ op:BinOp,P.eqGuardType P.depth t=false->(eqGuard op t x y (.agg ax) (.agg Avt)).run P w=.ok () w:=by simp_all [eqGuard]
   have Ha:∀ b,Wv C P 9 t (.agg xs) (.agg ys)=some b->(Op.equal t (.agg ax) (.agg Avt)).run P w=.ok b w:=fun b hb=>Au4 hC 9 9991 t _ _ b _ _ hb ⟨ax,rfl,g1,g2⟩ ⟨Avt,rfl,g3,g4⟩
   split at hagg;·rename_i hg;exact Sound.val st.mem h (v:=.bool b) (by grind [execOp,Sem.run_bind,Result.andThen_ok,binOp,Sem.run_pure]) rfl
   ·rename_i hg;split at hagg;·rename_i b' hb';cases hagg;exact Sound.val st.mem h (v:=.bool (!b')) (by grind [execOp,Sem.run_bind,Result.andThen_ok,binOp,Sem.run_pure]) rfl
    grind
   grind
  simp_all
 unfold YM at h;split at h
 ·obtain ⟨h1,h2⟩:=AyE h
  exact Sound.val st.mem h2 (run hx hy rfl (by simp [binOp,Op.shift,Int.not_lt.2 (of_decide_eq_true h1)])) rfl
 ·obtain ⟨h1,h2⟩:=AyE h
  exact Sound.val st.mem h2 (run hx hy rfl (by simp [binOp,Op.shift,Int.not_lt.2 (of_decide_eq_true h1)])) rfl
 ·split at h
  ·rename_i hk;obtain ⟨h1,h2⟩:=AyE h
   have hk:=of_decide_eq_true hk;subst hk;exact Sound.val st.mem h2 (run hx hy rfl (by simp_all [binOp,Op.intDiv])) rfl
  ·cases h
 ·split at h
  ·rename_i hk;obtain ⟨h1,h2⟩:=AyE h
   have hk:=of_decide_eq_true hk;subst hk;exact Sound.val st.mem h2 (run hx hy rfl (by simp_all [binOp,Op.intDiv])) rfl
  ·cases h
 ·obtain ⟨h1,h2⟩:=AyE h
  have h1:=of_decide_eq_true h1
  exact Sound.val st.mem h2 (run hx hy rfl (by
   have hmx:IntKind.i64.max=9223372036854775807:=by decide
   simp only [binOp,Op.stringOp,hmx];rw [if_neg (by omega)];rfl)) rfl
 ·split at h
  ·rename_i hk hl;have hk:=of_decide_eq_true hk;subst hk;obtain ⟨v,h1,h2⟩:=Au1 (P:=P) (hp:=hp) (AB:=AB) (w:=w) (t:=t) hl
   exact Sound.val st.mem h (run hx hy rfl h1) (h2 _)
  ·cases h
 ·split at h
  ·rename_i hl;obtain ⟨v,h1,h2⟩:=Au2 (P:=P) (hp:=hp) (AB:=AB) (w:=w) (t:=t) hl
   exact Sound.val st.mem h (run hx hy rfl h1) (h2 _)
  ·cases h
 ·split at h;·rename_i hk;have hu:=(hC.ty t (by simp_all)).und;rw [hk] at hu;exact Sound.val st.mem h (run hx hy rfl (by simp only [binOp,Sem.run_bind,AdF hu,Result.andThen_ok,Sem.run_pure])) rfl
  ·cases h
 ·split at h;·rename_i hk;have hu:=(hC.ty t (by simp_all)).und;rw [hk] at hu;exact Sound.val st.mem h (run hx hy rfl (by simp only [binOp,Sem.run_bind,AdF hu,Result.andThen_ok,Sem.run_pure])) rfl
  ·cases h
 ·cases h
end
end Go.Ev
