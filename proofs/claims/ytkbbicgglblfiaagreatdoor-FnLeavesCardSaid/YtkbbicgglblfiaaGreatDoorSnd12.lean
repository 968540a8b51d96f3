/- What the evaluator tells of rows that are made, converted or appended is what the machine does. -/
import Derived.Test.YtkbbicgglblfiaaGreatDoorSnd11
namespace Go.Ev
open Go
section
variable {C:Ctx} {P:Program} {hp:Hp C} {AB:At} {w w':World} {Ai:Nat->Prop} {w0:World} {Avn:Nat->Nat->Prop} {n:Nat} {env:Env C} {a:Act}
variable {γ:Type} {K:Val C.El->Hp C->Option γ} {r:γ} {o:Oper} {AC:Nat->Nat} {call:Nat->List (U C.El)->(List (U C.El)->Option γ)->Option γ}
theorem wrap_i64 {i:Int} (h0:0<=i) (h1:i<=9223372036854775807):IntKind.i64.wrap i=i:=by grind [IntKind.wrap_i64]
theorem Auq (f:Nat->Value):(Array.range 0).map f = #[]:=Array.eq_empty_of_size_eq_zero (by simp)
theorem run_makeSlice {t e sz bytes:Nat} {m c:Int} {i:TypeInfo} {z:Value} (hu:P.underlying t=some (.slice e)) (hi:(typeInfo e).run P w=.ok i w) (hib:i.bytes=bytes) (hsz:(sizeOf e).run P w=.ok sz w) (hz:(zeroValue e).run P w=.ok z w)
  (h1:0<=m) (h2:m<=c) (h3:c<=9223372036854775807) (h4:c.toNat*bytes<=140737488355328) :
  (Instr.makeSlice t (.int .i64 m) (.int .i64 c)).run P w=.ok (.slice (some ⟨w.heap.size,0,none⟩) m.toNat c.toNat) (w.alloc (.cells ((Array.range (c.toNat*sz)).map (fun k=>z.cells[k % z.cells.size]!)) e)):=by
 have w1:=wrap_i64 h1 (show m<=9223372036854775807 by omega);have w2:=wrap_i64 (show 0<=c by omega) h3;have hbytes:¬ (bytes:Int)*c > 2 ^ 48:=by grind
 have c1:¬ c<0:=by omega
 have c2:¬ m<0:=by omega
 have c3:¬ m > c:=by omega
 have hcond:(c<0 || decide ((bytes:Int)*c > 2 ^ 48))=false:=by simp_all
 simp only [Instr.makeSlice,Sem.run_bind,run_underlying hu,Result.andThen_ok,asInt,asIntOf,Sem.run_pure,hi,hib,w1,w2];simp_all [if_neg,Auq,newRow]
theorem AuT (hC:EW C P) (st:St C w0 Avn n env hp AB Ai a w) (t:TypeId) (x y:Operand) (ho:o.op=.makeSlice t x y) (h:ET C P AC call env hp o K r):Sound C P w0 Avn hp AB a w o K r:=by
 unfold ET at h;rw [ho] at h;simp only [Ci] at h;have hx:=Awr st x;have hy:=Awr st y;split at h
 ·rename_i e m c hk hex GD;rw [hex] at hx;rw [GD] at hy;have hx:a.eval x=.int .i64 m:=hx;have hy:a.eval y=.int .i64 c:=hy;obtain ⟨h1,h⟩:=AyE h
  simp only [Bool.and_eq_true,decide_eq_true_eq] at h1;obtain ⟨⟨⟨h1,h2⟩,h3⟩,h4⟩:=h1
  obtain ⟨hb,h⟩:=QB h
  obtain ⟨hu,hs,hsz⟩:=AzX hC hk
  obtain ⟨_,z,hz,hzz⟩:=AKL hC (.inl hk)
  obtain ⟨_,hne,hby,_⟩:=hC.pos e ⟨t,.inl hk⟩
  obtain ⟨i,hi,hib,_⟩:=Aur hC hne w
  have hcn:((c.toNat:Nat):Int)=c:=Int.toNat_of_nonneg (by omega);have hrow:Axl C w Ai (List.replicate c.toNat (C.Aw e).z) ((Array.range (c.toNat*(C.ti e).size)).map (fun k=>z.cells[k % z.cells.size]!)).toList:=AUH (hC.Aw e) hs hzz c.toNat Ai;intro next Q hn
  have ha:=After.row (xs:=List.replicate m.toNat (C.Aw e).z) (cap:=c.toNat) st.mem hb (NewAt.alloc w ((Array.range (c.toNat*(C.ti e).size)).map (fun k=>z.cells[k % z.cells.size]!)) e) (fun j _=>by simp) (by simp) (by grind) (by omega) (fun j x i l hx hl=>by
   obtain ⟨v,g1,g2⟩:=hrow.2 j x i l (by
    grind) hl
   grind)
  rw [List.length_replicate] at ha;refine Avs ?_ (hn _ _ _ _ h ha);simp only [execOp,ho,hx,hy,Sem.run_bind,run_makeSlice hu hi hib (hsz w) (hz w) h1 h2 h3 h4,Result.andThen_ok,Sem.run_pure]
 ·cases h
theorem After.drew {val:Val C.El} {h':Hp C} {v:Value} {w':World} (h:After C w0 Avn hp AB w val h' v w'):After C w0 Avn hp AB w val h' v w':=h
theorem NewAt.drew (w:World) (arr:Array Value) (e:TypeId):NewAt w (w.drew.alloc (.cells arr e)) arr e (0,0):=
 ⟨rfl,rfl,rfl,by simp,fun b hb=>heap_alloc_old w.drew _ b hb,heap_alloc_new w.drew _⟩
theorem AUO (need old:Nat) (e:TypeId) (t:Nat):need<=(Question.appendCap need old e).cut t:=by simp [Question.cut]
theorem Ac7 {need old:Nat} {e:TypeId} {t:Nat} (h:need<=9223372036854775807):(Question.appendCap need old e).cut t<=9223372036854775807:=by have:=Nat.mod_lt t (show 0<2 ^ 63 - need by omega);grind [Question.cut]
end
end Go.Ev
