/- What the evaluator tells of operations that turn no memory is what the machine does. -/
import Derived.Test.YtaalgheapdmjnaaGreatDoorSnd2
import Derived.Laws.StructEq
namespace Go.Ev
set_option linter.unusedVariables false
set_option linter.unusedSimpArgs false
open Go
section
variable {C:Ctx} {P:Program} {hp:Hp C} {AB:At} {w:World} {Af:Nat->Prop} {w0:World} {Ec:Nat->Nat->Prop} {n:Nat} {env:Env C} {a:Act}
def After (C:Ctx) (w0:World) (Ec:Nat->Nat->Prop) (hp:Hp C) (AB:At) (w:World) (val:Val C.El) (h':Hp C) (v:Value) (w':World):Prop:=
 ∃ at2 AE,Mem C w0 Ec (h'++hp) at2 AE w'/\Hf C (h'++hp) at2 w' (BD C (h'++hp) at2 w') val v/\ArP hp (h'++hp) AB at2/\
  (∀ b,BD C hp AB w b->BD C (h'++hp) at2 w' b/\w'.heap[b]?=w.heap[b]?)/\Ext w w'
theorem After.same (m:Mem C w0 Ec hp AB Af w) {val:Val C.El} {v:Value} (h:Hf C hp AB w (BD C hp AB w) val v):After C w0 Ec hp AB w val [] v w:=
 ⟨AB,Af,m,h,ArP.refl _ _,fun b hb=>⟨hb,rfl⟩,Ext.refl w⟩
theorem Asi {o:Oper} {v:Value} {w':World} {next:Act->World->Prop} {Q:Exit->Act->World->Prop} (h:(execOp a.eval o).run P w=.ok (.value v) w') (hn:next (a.put o.dst v) w'):o.wp P a w next Q:=by unfold Oper.wp;rw [h];exact hn
theorem wp_skip {o:Oper} {w':World} {next:Act->World->Prop} {Q:Exit->Act->World->Prop} (h:(execOp a.eval o).run P w=.ok .skip w') (hn:next (a.put o.dst undef) w'):o.wp P a w next Q:=by unfold Oper.wp;rw [h];exact hn
def Sound (C:Ctx) (P:Program) {γ:Type} (w0:World) (Ec:Nat->Nat->Prop) (hp:Hp C) (AB:At) (a:Act) (w:World) (o:Oper) (K:Val C.El->Hp C->Option γ) (r:γ):Prop:=
 ∀ (next:Act->World->Prop) (Q:Exit->Act->World->Prop),(∀ val h' v w',K val h'=some r->After C w0 Ec hp AB w val h' v w'->next (a.put o.dst v) w')->o.wp P a w next Q
variable {γ:Type} {K:Val C.El->Hp C->Option γ} {r:γ} {o:Oper}
theorem Sound.val (m:Mem C w0 Ec hp AB Af w) {val:Val C.El} {v:Value} (hk:K val []=some r) (hr:(execOp a.eval o).run P w=.ok (.value v) w) (h:Hf C hp AB w (BD C hp AB w) val v) :
  Sound C P w0 Ec hp AB a w o K r:=fun next Q hn=>Asi hr (hn val [] v w hk (After.same m h))
theorem AsI {b:Bool} {x:Option γ} (h:when b x none=some r):b=true/\x=some r:=by
 cases b with
 | true=>exact ⟨rfl,h⟩
 | false=>cases h
abbrev ES (C:Ctx) (P:Program) {γ:Type} (AC:Nat->Nat) (call:Nat->List (U C.El)->(List (U C.El)->Option γ)->Option γ) (env:Env C) (hp:Hp C) (o:Oper) (K:Val C.El->Hp C->Option γ) (r:γ):Prop:=
 CW C P AC call env hp (o.dst.getD 0) o.op K none=some r
variable {AC:Nat->Nat} {call:Nat->List (U C.El)->(List (U C.El)->Option γ)->Option γ}
theorem Ape (st:St C w0 Ec n env hp AB Af a w) (x:Operand) (ho:o.op=.move x) (h:ES C P AC call env hp o K r):Sound C P w0 Ec hp AB a w o K r:=by unfold ES at h;rw [ho] at h;exact Sound.val st.mem h (by simp [execOp,ho]) (SA st x)
theorem Apf (st:St C w0 Ec n env hp AB Af a w) (x:Operand) (ho:o.op=.assign x) (h:ES C P AC call env hp o K r):Sound C P w0 Ec hp AB a w o K r:=by unfold ES at h;rw [ho] at h;exact Sound.val st.mem h (by simp [execOp,ho]) (SA st x)
theorem Apg (st:St C w0 Ec n env hp AB Af a w) (c x y:Operand) (ho:o.op=.pick c x y) (h:ES C P AC call env hp o K r):Sound C P w0 Ec hp AB a w o K r:=by
 unfold ES at h;rw [ho] at h;simp only [CW] at h;have hc:=SA st c;split at h
 ·rename_i p hp';rw [hp'] at hc;have hc:a.eval c=.bool p:=hc;cases p with
  | true=>exact Sound.val st.mem h (by simp_all [execOp,asBool]) (SA st x)
  | false=>exact Sound.val st.mem h (by simp_all [execOp,asBool]) (SA st y)
 ·cases h
theorem Apq (st:St C w0 Ec n env hp AB Af a w) (op:UnOp) (t:TypeId) (x:Operand) (ho:o.op=.unOp op t x) (h:ES C P AC call env hp o K r):Sound C P w0 Ec hp AB a w o K r:=by
 unfold ES at h;rw [ho] at h;simp only [CW] at h;have hx:=SA st x;split at h;·rename_i hx';rw [hx'] at hx;have hx:a.eval x=_:=hx;exact Sound.val st.mem h (by simp_all [execOp,Op.unary]) rfl
 ·rename_i hx';rw [hx'] at hx;have hx:a.eval x=_:=hx;exact Sound.val st.mem h (by simp_all [execOp,Op.unary,Op.intArith]) rfl
 ·rename_i hx';rw [hx'] at hx;have hx:a.eval x=_:=hx;exact Sound.val st.mem h (by simp_all [execOp,Op.unary,Op.intBits]) rfl
 ·cases h
def AZm:Value->Value->Bool
 | .nilIface,.nilIface=>false
 | .agg _,.agg _=>false
 | _,_=>true
theorem AqS {op:BinOp} {t:TypeId} {x y:Operand} {u v:Value} (h:AZm u v=true):(eqGuard op t x y u v).run P w=.ok () w:=by
 unfold eqGuard
 cases op <;> first
  | rfl
  | (cases u <;> cases v <;> first | rfl | cases h)
theorem AZn {t:TypeId} {x y:Bool} (hu:P.underlying t=some .bool):(Op.equal t (.bool x) (.bool y)).run P w=.ok (x == y) w:=by unfold Op.equal Op.maxDepth;rw [show (10000:Nat)=9999+1 from rfl];rw [Op.equalIn,Sem.run_bind,run_underlying hu];rfl
theorem AqT {op:BinOp} {k:IntKind} {x y:Int} {l:L C.El} {t:TypeId} (h:ARV C op k x y=some l):∃ v,(binOp op t (.int k x) (.int k y)).run P w=.ok v w/\∀ ro,KA C hp AB w ro l v:=by
 cases op <;> simp only [ARV,Option.some.injEq] at h <;> first
  | (subst h;exact ⟨_,by simp [binOp,Op.intArith,Op.intBits,Op.intCmp,Op.stringOp];rfl,fun _=>rfl⟩)
  | (subst h;exact ⟨_,by simp [binOp,Op.intArith,Op.intBits,Op.intCmp,Op.stringOp],fun _=>rfl⟩)
  | simp_all
theorem AqU {op:BinOp} {x y:AA} {l:L C.El} {t:TypeId} (h:ARW C op x y=some l):∃ v,(binOp op t (.string x) (.string y)).run P w=.ok v w/\∀ ro,KA C hp AB w ro l v:=by
 cases op <;> simp only [ARW,Option.some.injEq] at h <;> first
  | (subst h;exact ⟨_,by rfl,fun _=>rfl⟩)
  | (subst h;exact ⟨_,by rfl,fun _=>rfl⟩)
  | (exact absurd h (by simp))
theorem AqV (hC:EG C P) {ro:Nat->Prop} {d D:Nat} (hd:∀ (t:Nat) (u v:U C.El) (b:Bool) (x y:Value),Vf C P d t u v=some b->Aun C hp AB w ro u x->Aun C hp AB w ro v y->(Op.equalIn D t x y).run P w=.ok b w) {xs ys:List (L C.El)} {ax Hh:Array Value} (hx:Aun C hp AB w ro (.agg xs) (.agg ax)) (hy:Aun C hp AB w ro (.agg ys) (.agg Hh)) :
  ∀ (fs:List Field) (b:Bool),rD C (Vf C P d) xs ys fs=some b->(Op.eqFields D ax Hh fs).run P w=.ok b w:=by
 intro fs;induction fs with
 | nil=>intro b h;simp only [rD,Option.some.injEq] at h;subst h;rfl
 | cons f fs ih=>
  intro b h;simp only [rD] at h;rw [Op.eqFields];split at h;·simp_all
  ·rename_i hn;have hn':f.name≠ "_":=by simp_all
   rw [if_pos hn'];split at h
   ·rename_i u v hu hv;split at h
    ·rename_i b1 r1 h1 h2;cases h;obtain ⟨arr,e1,g1,g2⟩:=hx
     cases e1;obtain ⟨arr',e2,g3,g4⟩:=hy
     cases e2;obtain ⟨x,k1,k2⟩:=ARU hC hu g1 g2
     obtain ⟨y,k3,k4⟩:=ARU hC hv g3 g4
     simp only [Sem.run_bind,k1,k3,Result.andThen_ok,hd _ _ _ _ _ _ h1 k2 k4];cases b1;all_goals simp_all
    ·cases h
   ·cases h
theorem AqW (hC:EG C P) {ro:Nat->Prop}:∀ (d:Nat) (D:Nat) (t:Nat) (u v:U C.El) (b:Bool) (x y:Value),Vf C P d t u v=some b->Aun C hp AB w ro u x->Aun C hp AB w ro v y->(Op.equalIn (D+d) t x y).run P w=.ok b w:=by
 intro d;induction d with
 | zero=>simp [Vf]
 | succ d ih=>
  intro D t u v b x y h hx hy;simp only [Vf] at h;split at h
  ·rename_i xs ys;split at h
   ·rename_i fs hu hs;obtain ⟨ax,rfl,g1,g2⟩:=hx
    obtain ⟨Hh,rfl,g3,g4⟩:=hy
    have hf:P.fieldsOf t=fs:=by simp [Program.fieldsOf,hu]
    rw [show D+(d+1)=(D+d)+1 by omega,run_equalIn_struct (P:=P) w (D+d) t ax Hh (by simp_all) hs,hf];exact AqV hC (fun t u v b x y=>ih D t u v b x y) ⟨ax,rfl,g1,g2⟩ ⟨Hh,rfl,g3,g4⟩ _ _ h
   ·cases h
  ·split at h;·rename_i hu hk;have hk:=of_decide_eq_true hk;subst hk;cases h;have hx:x=_:=hx;have hy:y=_:=hy;grind [run_equalIn_int]
   ·cases h
  ·split at h;·rename_i hu;cases h;have hx:x=_:=hx;have hy:y=_:=hy;grind [run_equalIn_bool']
   ·cases h
  ·split at h;·rename_i hu;cases h;have hx:x=_:=hx;have hy:y=_:=hy;grind [run_equalIn_string]
   ·cases h
  ·cases h
theorem Apo (hC:EG C P) (st:St C w0 Ec n env hp AB Af a w) (op:BinOp) (t t':TypeId) (x y:Operand) (ho:o.op=.binOp op t x y t') (h:ES C P AC call env hp o K r):Sound C P w0 Ec hp AB a w o K r:=by
 unfold ES at h;rw [ho] at h;simp only [CW] at h;have hx:=SA st x;have hy:=SA st y;generalize Bl C env x=xv at h hx;generalize Bl C env y=yv at h hy;have run:∀ {v u u'},a.eval x=u->a.eval y=u'->AZm u u'=true->(binOp op t u u').run P w=.ok v w->(execOp a.eval o).run P w=.ok (.value v) w:=by simp_all [execOp,AqS]
 split at h
 ·rename_i b hagg;unfold AZo at hagg;split at hagg
  ·rename_i xs ys;obtain ⟨ax,ex,g1,g2⟩:=hx
   obtain ⟨Hh,ey,g3,g4⟩:=hy
   have guard:∀ op:BinOp,P.eqGuardType P.depth t=false->(eqGuard op t x y (.agg ax) (.agg Hh)).run P w=.ok () w:=by simp_all [eqGuard]
   have HR:∀ b,Vf C P 9 t (.agg xs) (.agg ys)=some b->(Op.equal t (.agg ax) (.agg Hh)).run P w=.ok b w:=fun b hb=>AqW hC 9 9991 t _ _ b _ _ hb ⟨ax,rfl,g1,g2⟩ ⟨Hh,rfl,g3,g4⟩
   split at hagg;·rename_i hg;exact Sound.val st.mem h (v:=.bool b) (by grind [execOp,Sem.run_bind,Result.andThen_ok,binOp,Sem.run_pure]) rfl
   ·rename_i hg;split at hagg;·rename_i b' hb';cases hagg;exact Sound.val st.mem h (v:=.bool (!b')) (by grind [execOp,Sem.run_bind,Result.andThen_ok,binOp,Sem.run_pure]) rfl
    grind
   grind
  simp_all
 unfold WB at h;split at h
 ·obtain ⟨h1,h2⟩:=AsI h
  exact Sound.val st.mem h2 (run hx hy rfl (by simp [binOp,Op.shift,Int.not_lt.2 (of_decide_eq_true h1)])) rfl
 ·obtain ⟨h1,h2⟩:=AsI h
  exact Sound.val st.mem h2 (run hx hy rfl (by simp [binOp,Op.shift,Int.not_lt.2 (of_decide_eq_true h1)])) rfl
 ·split at h
  ·rename_i hk;obtain ⟨h1,h2⟩:=AsI h
   have hk:=of_decide_eq_true hk;subst hk;exact Sound.val st.mem h2 (run hx hy rfl (by simp_all [binOp,Op.intDiv])) rfl
  ·cases h
 ·split at h
  ·rename_i hk;obtain ⟨h1,h2⟩:=AsI h
   have hk:=of_decide_eq_true hk;subst hk;exact Sound.val st.mem h2 (run hx hy rfl (by simp_all [binOp,Op.intDiv])) rfl
  ·cases h
 ·obtain ⟨h1,h2⟩:=AsI h
  have h1:=of_decide_eq_true h1
  exact Sound.val st.mem h2 (run hx hy rfl (by
   have hmx:IntKind.i64.max=9223372036854775807:=by decide
   simp only [binOp,Op.stringOp,hmx];rw [if_neg (by omega)];rfl)) rfl
 ·split at h
  ·rename_i hk hl;have hk:=of_decide_eq_true hk;subst hk;obtain ⟨v,h1,h2⟩:=AqT (P:=P) (hp:=hp) (AB:=AB) (w:=w) (t:=t) hl
   exact Sound.val st.mem h (run hx hy rfl h1) (h2 _)
  ·cases h
 ·split at h
  ·rename_i hl;obtain ⟨v,h1,h2⟩:=AqU (P:=P) (hp:=hp) (AB:=AB) (w:=w) (t:=t) hl
   exact Sound.val st.mem h (run hx hy rfl h1) (h2 _)
  ·cases h
 ·split at h;·rename_i hk;have hu:=(hC.ty t (by simp_all)).und;rw [hk] at hu;exact Sound.val st.mem h (run hx hy rfl (by simp only [binOp,Sem.run_bind,AZn hu,Result.andThen_ok,Sem.run_pure])) rfl
  ·cases h
 ·split at h;·rename_i hk;have hu:=(hC.ty t (by simp_all)).und;rw [hk] at hu;exact Sound.val st.mem h (run hx hy rfl (by simp only [binOp,Sem.run_bind,AZn hu,Result.andThen_ok,Sem.run_pure])) rfl
  ·cases h
 ·cases h
end
end Go.Ev
