/- What the evaluator tells of operations that turn no memory is what the machine does: pieces, lengths, structs. -/
import Derived.Test.YtkbbicgglblfiaaGreatDoorSnd5
namespace Go.Ev
open Go
section
variable {C:Ctx} {P:Program} {hp:Hp C} {AB:At} {w:World} {Ai:Nat->Prop} {w0:World} {Avn:Nat->Nat->Prop} {n:Nat} {env:Env C} {a:Act}
variable {γ:Type} {K:Val C.El->Hp C->Option γ} {r:γ} {o:Oper} {AC:Nat->Nat} {call:Nat->List (U C.El)->(List (U C.El)->Option γ)->Option γ}
theorem AKS {v:Value} {k:IntKind} {i:Int} {y:Nat} {code:BoundsCode} (hv:v=.int k i) (h0:0<=i) (h1:i<=(y:Int)):(Instr.sliceBound v y code).run P w=.ok i.toNat w:=by simp_all [Instr.sliceBound,asIntOf]
theorem AKT (st:St C w0 Avn n env hp AB Ai a w) (lo hi:Option Operand) {m:Nat} {k:Nat->Nat->Option γ}
  (h:cutAt C (lo.map (CB C env)) (hi.map (CB C env)) m k none=some r) :
  ∃ x y,x<=y/\y<=m/\k x y=some r/\∀ (cap:Nat) (s:Bool),m<=cap->(Instr.sliceBounds s m cap (lo.map a.eval) (hi.map a.eval) none).run P w=.ok (x,y,cap) w:=by
 have one:∀ {q:Operand} {kk:IntKind} {i:Int},CB C env q=[.one (.int kk i)]->a.eval q=.int kk i:=fun {q kk i} hq=>by have:=Awr st q;rw [hq] at this;exact this
 unfold cutAt at h;split at h;·rename_i h1 h2;cases lo <;> cases hi <;> simp at h1 h2;exact ⟨0,m,by omega,by omega,h,fun cap s hc=>by rfl⟩
 ·rename_i kk x h1 h2;cases lo <;> cases hi <;> simp at h1 h2;rename_i q;obtain ⟨h3,h4⟩:=AyE h
  simp only [Bool.and_eq_true,decide_eq_true_eq] at h3;refine ⟨x.toNat,m,by omega,by omega,h4,fun cap s hc=>?_⟩;simp [Instr.sliceBounds,AKS (one h1) h3.1 h3.2]
 ·rename_i kk y h1 h2;cases lo <;> cases hi <;> simp at h1 h2;rename_i q;obtain ⟨h3,h4⟩:=AyE h
  simp only [Bool.and_eq_true,decide_eq_true_eq] at h3;refine ⟨0,y.toNat,by omega,by omega,h4,fun cap s hc=>?_⟩;simp [Instr.sliceBounds,AKS (one h2) h3.1 (show y<=(cap:Int) by omega)]
 ·rename_i kk x HZ y h1 h2;cases lo <;> cases hi <;> simp at h1 h2;rename_i q q';obtain ⟨h3,h4⟩:=AyE h
  simp only [Bool.and_eq_true,decide_eq_true_eq] at h3;refine ⟨x.toNat,y.toNat,by omega,by omega,h4,fun cap s hc=>?_⟩;simp [Instr.sliceBounds,AKS (one h2) (show 0<=y by omega) (show y<=(cap:Int) by omega),AKS (one h1) h3.1.1 (show x<=((y.toNat:Nat):Int) by omega)]
 ·cases h
theorem vg {t e sz:Nat} (hu:P.underlying t=some (.slice e)) (hs:(sizeOf e).run P w=.ok sz w) {A:Option Addr} {len cap x y:Nat} {lo hi:Option Value} (hb:(Instr.sliceBounds true len cap lo hi none).run P w=.ok (x,y,cap) w) :
  (Instr.sliceAt t (.slice A len cap) lo hi none).run P w=.ok (.slice (if cap=x then A else A.map (·.add (x*sz))) (y - x) (cap - x)) w:=by
 simp_all [Instr.sliceAt,Instr.slice,run_underlying]
theorem AuU (hC:EW C P) (st:St C w0 Avn n env hp AB Ai a w) (t:TypeId) (x:Operand) (lo hi:Option Operand) (ho:o.op=.slice t x lo hi none) (h:ET C P AC call env hp o K r):Sound C P w0 Avn hp AB a w o K r:=by
 unfold ET at h;rw [ho] at h;simp only [Ci] at h;have hx:=Awr st x;have run:∀ {v:Value},(Instr.sliceAt t (a.eval x) (lo.map a.eval) (hi.map a.eval) none).run P w=.ok v w->(execOp a.eval o).run P w=.ok (.value v) w:=by simp_all [execOp]
 split at h
 ·rename_i s hk he;rw [he] at hx;have hx:a.eval x=.string s:=hx;obtain ⟨p,q,h1,h2,h3,h4⟩:=AKT (P:=P) st lo hi h
  have hu:=(hC.ty t (by simp_all)).und;rw [hk] at hu;exact Sound.val st.mem h3 (run (by rw [hx];simp [Instr.sliceAt,Instr.slice,run_underlying hu,h4 s.size false (Nat.le_refl _)])) rfl
 ·rename_i e e' xs hk he;rw [he] at hx;obtain ⟨hu,hs,hsz⟩:=AzX hC hk
  split at h
  ·rename_i hee;have hee:=Ea hee;subst hee;obtain ⟨p,q,h1,h2,h3,h4⟩:=AKT (P:=P) st lo hi h
   have hr:Rep C w (BK C hp AB w) (.BG e xs) (a.eval x):=hx;generalize hv:a.eval x=v at hr run;cases hr with
   | none _ A c=>
    simp at h2;subst h2;have:p=0:=by omega
    subst this;refine Sound.val st.mem h3 (run (vg hu (hsz w) (h4 c true (by simp)))) ?_;have:((List.take 0 ([]:List (C.El e))).drop 0)=[]:=rfl;exact Rep.none e _ _
   | BG _ _ b off c V hb hl hc hrr=>
    refine Sound.val st.mem h3 (run (vg hu (hsz w) (h4 c true hl))) ?_;show Rep C w _ _ _;by_cases hpq:p=q;·subst hpq;rw [show (xs.take p).drop p=[] from List.drop_eq_nil_of_le (by grind)];rw [Nat.sub_self];exact Rep.none e _ _
    ·rw [if_neg (by omega)];have hlen:((xs.take q).drop p).length=q - p:=by grind
     have key:=Rep.BG (C:=C) (w:=w) (ro:=BK C hp AB w) e ((xs.take q).drop p) b (off+p*(C.ti e).size) (c - p) (fun j i=>V (j+p) i) hb (by omega)
      (fun j x i l h5 h6=>by
       grind)
      (fun j x i l h5 h6=>by
       grind)
     grind [Addr.add_mid]
  ·cases h
 ·rename_i e id hk he;rw [he] at hx;obtain ⟨hu,hs,hsz⟩:=AzX hC hk
  split at h
  ·rename_i e' xs hl;split at h
   ·rename_i hee;have hee:=Ea hee;subst hee;obtain ⟨p,q,h1,h2,h3,h4⟩:=AKT (P:=P) st lo hi h
    have hbd:=(hx:KA C hp AB w (BK C hp AB w) (.own id) (a.eval x)).2.1;rcases YO (ro:=BK C hp AB w) st.mem hl hx with ⟨hxs,hv,ha⟩ | ⟨b,cap,arr,fr,ha,hv,hh,hsize,_⟩
    ·subst hxs;simp at h2;subst h2;have:p=0:=by omega
     subst this;refine Sound.val st.mem h3 (run (by rw [hv];exact vg hu (hsz w) (h4 0 true (by simp)))) ⟨rfl,hbd,by grind⟩
    ·have hob:=st.mem.obj id;simp only [OA,hl,ha] at hob;obtain ⟨_,cap',arr',fr',g1,g2,g3,_⟩:=hob
     rw [hh] at g1;cases g1;have:cap=cap':=Nat.eq_of_mul_eq_mul_right hs (hsize.symm.trans g2);subst this;refine Sound.val st.mem h3 (run (by rw [hv];exact vg hu (hsz w) (h4 cap true g3))) ⟨rfl,hbd,?_⟩;grind [Addr.add_mid]
   ·cases h
  ·cases h
 ·rename_i e id off m hk he;rw [he] at hx;obtain ⟨hu,hs,hsz⟩:=AzX hC hk
  split at h
  ·rename_i e' xs hl;split at h
   ·rename_i hee;have hee:=Ea hee;subst hee;obtain ⟨p,q,h1,h2,h3,h4⟩:=AKT (P:=P) st lo hi h
    have hbd:=(hx:KA C hp AB w (BK C hp AB w) (.sub id off m) (a.eval x)).2.1;cases ha0:AB id with
    | none=>
     have hy:=(hx:KA C hp AB w (BK C hp AB w) (.sub id off m) (a.eval x)).2.2;simp only [hl,ha0] at hy;obtain ⟨hv,rfl,rfl⟩:=hy
     have:q=0:=by omega
     subst this;have:p=0:=by omega
     subst this;refine Sound.val st.mem h3 (run (by rw [hv];exact vg hu (hsz w) (h4 0 true (by simp)))) ⟨rfl,hbd,by grind⟩
    | some pp=>
     rcases AKI (ro:=BK C hp AB w) st.mem hl hs hx with ⟨rfl,rfl,hv⟩ | ⟨b,cap,arr,fr,A,ha,hv,g1,g2,g3,g4,g5,g6⟩
     ·exfalso;have hy:=(hx:KA C hp AB w (BK C hp AB w) (.sub id 0 0) (a.eval x)).2.2;grind
     ·refine Sound.val st.mem h3 (run (by rw [hv];exact vg hu (hsz w) (h4 (cap - off) true (by omega)))) ⟨rfl,hbd,?_⟩;simp only [hl,ha];grind [Addr.add_mid,Nat.add_mul]
   ·cases h
  ·cases h
 ·cases h
theorem Pj {t:Nat} {k:aY} (hC:EW C P) (h:(C.ti t).kind=k) (hk:k≠.other):ATr C P k (P.underlying t):=by have:=(hC.ty t (by simp_all)).und;simp_all
theorem Auz {args:Array TypeId} (h:0<args.size):args[0]?=some (args.getD 0 0):=by simp_all
theorem AKR {w':World} (c:Call) {nx:Next} (b:Builtin) (hc:c.callee=.builtin b) (ho:o.op=.call c) (hr:(builtin b c.argTypes o.type (c.args.map fun | .const _=>true | _=>false) (c.args.map a.eval)).run P w=.ok nx w'):(execOp a.eval o).run P w=.ok nx w':=by grind [execOp,resolve,invoke]
theorem AUR {args:Array Operand} {x:Val C.El} (h:vals C env args.toList=[x]):∃ y,args.map a.eval = #[a.eval y]/\CB C env y=x:=by
 obtain ⟨l⟩:=args
 cases l with
 | nil=>simp [vals] at h
 | cons y ys=>
  cases ys<;>grind [vals]
theorem AUL {args:Array Operand} {x x':Val C.El} (h:vals C env args.toList=[x,x']):∃ y y',args.map a.eval = #[a.eval y,a.eval y']/\CB C env y=x/\CB C env y'=x':=by
 obtain ⟨l⟩:=args
 cases l with
 | nil=>simp [vals] at h
 | cons y ys=>
  cases ys with
  | nil=>simp [vals] at h
  | cons z zs=>
   cases zs<;>grind [vals]
theorem AuW (hC:EW C P) (st:St C w0 Avn n env hp AB Ai a w) (args:Array Operand) (argTypes:Array TypeId) (ho:o.op=.call { callee:=.builtin .len,args,argTypes }) (h:ET C P AC call env hp o K r):Sound C P w0 Avn hp AB a w o K r:=by
 unfold ET at h;rw [ho] at h;simp only [Ci] at h;have run:∀ {y:Operand} {v:Value},args.map a.eval = #[a.eval y]->0<argTypes.size->(Builtin.len_ argTypes o.type #[a.eval y]).run P w=.ok v w->(execOp a.eval o).run P w=.ok (.value v) w:=by intro y v hy h0 hv;refine AKR _ .len rfl ho ?_;grind [builtin,Sem.run_bind,Result.andThen_ok,Sem.run_pure]
 split at h;·cases h
 ·rename_i hs;have hs:=Nat.le_of_ble_eq_true hs;have hg:=Auz hs;generalize argTypes.getD 0 0=t at h hg;split at h
  ·rename_i s hk hv;obtain ⟨y,h1,h2⟩:=AUR (a:=a) hv
   have hu:=Pj (P:=P) hC hk (by simp);have hy:=Awr st y;rw [h2] at hy;have hy:a.eval y=.string s:=hy;exact Sound.val st.mem h (run h1 hs (by simp [Builtin.len_,hg,run_underlying hu,hy,goInt])) rfl
  ·rename_i e l hk hv;obtain ⟨y,h1,h2⟩:=AUR (a:=a) hv
   have hu:=Pj (P:=P) hC hk (by simp);have hy:=Awr st y;rw [h2] at hy;split at h
   ·rename_i m hm;have:∃ A c,a.eval y=.slice A m c:=by
     cases l with
     | own id=>
      have hz:=(hy:KA C hp AB w (BK C hp AB w) (.own id) (a.eval y)).2.2;simp only [UL] at hm;split at hm
      ·rename_i e xs hl;simp at hm;subst hm;rcases YO (ro:=BK C hp AB w) st.mem hl hy with ⟨rfl,hv,_⟩ | ⟨b,cap,arr,fr,ha,hv,_⟩
       all_goals grind
      all_goals grind
     | sub id o' len=>
      have hz:=(hy:KA C hp AB w (BK C hp AB w) (.sub id o' len) (a.eval y)).2.2;grind [UL]
     | BG e xs=>
      have hz:Rep C w (BK C hp AB w) (.BG e xs) (a.eval y):=hy;simp [UL] at hm;subst hm;generalize a.eval y=v at hz;cases hz with
      | none _ A c=>simp
      | BG _ _ b off c=>simp
     | JI=>
      simp [UL] at hm;subst hm;have hz:a.eval y=.slice none 0 0:=hy;simp_all
     | J4=>
      simp [UL] at hm;subst hm;exact ⟨_,_,hy⟩
     | _=>simp [UL] at hm
    obtain ⟨A,c,hv'⟩:=this
    exact Sound.val st.mem h (run h1 hs (by simp [Builtin.len_,hg,run_underlying hu,hv',goInt])) rfl
   ·cases h
  ·rename_i m e x hk hv;obtain ⟨y,h1,h2⟩:=AUR (a:=a) hv
   have hu:=Pj (P:=P) hC hk (by simp);exact Sound.val st.mem h (run h1 hs (by simp [Builtin.len_,hg,run_underlying hu,goInt])) rfl
  ·cases h
theorem AuX (st:St C w0 Avn n env hp AB Ai a w) (args:Array Operand) (argTypes:Array TypeId) (ho:o.op=.call { callee:=.builtin .min,args,argTypes }) (h:ET C P AC call env hp o K r):Sound C P w0 Avn hp AB a w o K r:=by
 unfold ET at h;rw [ho] at h;simp only [Ci] at h;split at h
 ·rename_i k x k' y hv;split at h
  ·obtain ⟨p,q,h1,h2,h3⟩:=AUL (a:=a) hv
   have hp':=Awr st p;have hq':=Awr st q;rw [h2] at hp';rw [h3] at hq';have hp':a.eval p=.int k x:=hp';have hq':a.eval q=.int k' y:=hq';refine Sound.val st.mem h (AKR _ .min rfl ho ?_) rfl;simp_all [builtin,Builtin.min_,Builtin.min2]
  ·cases h
 ·cases h
theorem AuY (st:St C w0 Avn n env hp AB Ai a w) (args:Array Operand) (argTypes:Array TypeId) (ho:o.op=.call { callee:=.builtin .max,args,argTypes }) (h:ET C P AC call env hp o K r):Sound C P w0 Avn hp AB a w o K r:=by
 unfold ET at h;rw [ho] at h;simp only [Ci] at h;split at h
 ·rename_i k x k' y hv;split at h
  ·obtain ⟨p,q,h1,h2,h3⟩:=AUL (a:=a) hv
   have hp':=Awr st p;have hq':=Awr st q;rw [h2] at hp';rw [h3] at hq';have hp':a.eval p=.int k x:=hp';have hq':a.eval q=.int k' y:=hq';refine Sound.val st.mem h (AKR _ .max rfl ho ?_) rfl;simp_all [builtin,Builtin.max_,Builtin.max2]
  ·cases h
 ·cases h
end
end Go.Ev
