/- What arguments of laws read as, by type. -/
import Derived.Test.YtnmmhkanpfmaaaaGreatDoorCtx
import Derived.Test.YtnmmhkanpfmaaaaGreatDoorSnd39
namespace Go.Proofs.YtnmmhkanpfmaaaaGreatDoor.G
open Go Go.Ev
set_option linter.unusedSectionVars false
variable [PC]
theorem o3:OpensE ctx PP 3 (fun b:Int=>[.int .i64 b]) (GInt .i64):=opensE_int Tryz.underlying3
theorem o4:OpensE ctx PP 4 (fun b:Bool=>[.bool b]) GBool:=opensE_bool Tryz.underlying4
theorem o9:OpensE ctx PP 9 (fun b:ByteArray=>[.str b]) GStr:=opensE_string Tryz.underlying9
abbrev GSThing:SThing→Prop:=GIso (GPair (GInt .i64) (GPair (GInt .i64) (GPair GBool (GPair GBool (GPair GBool (GPair GBool (GPair GStr (GInt .i64)))))))) (fun s=>(s.fId,s.fKind,s.fHidden,s.fFixed,s.fSigns,s.fWraps,s.fValue,s.fNext))
theorem o23:OpensE ctx PP 23 (fun x:SThing=>[.int .i64 x.fId,.int .i64 x.fKind,.bool x.fHidden,.bool x.fFixed,.bool x.fSigns,.bool x.fWraps,.str x.fValue,.int .i64 x.fNext]) GSThing:=by
  have h:=opensE_iso (fun s:SThing=>(s.fId,s.fKind,s.fHidden,s.fFixed,s.fSigns,s.fWraps,s.fValue,s.fNext)) (fun p=>⟨p.1,p.2.1,p.2.2.1,p.2.2.2.1,p.2.2.2.2.1,p.2.2.2.2.2.1,p.2.2.2.2.2.2.1,p.2.2.2.2.2.2.2⟩) (fun _=>rfl) (opensE_struct Tryz.underlying23 rfl (by kernel_rfl) (opensFE_cons (s1:=1) rfl (by kernel_rfl) o3 (opensFE_cons (s1:=1) rfl (by kernel_rfl) o3 (opensFE_cons (s1:=1) rfl (by kernel_rfl) o4 (opensFE_cons (s1:=1) rfl (by kernel_rfl) o4 (opensFE_cons (s1:=1) rfl (by kernel_rfl) o4 (opensFE_cons (s1:=1) rfl (by kernel_rfl) o4 (opensFE_cons (s1:=1) rfl (by kernel_rfl) o9 (opensFE_one (sz:=1) rfl (by kernel_rfl) o3)))))))))
  exact h
theorem o5:OpensE ctx PP 5 (fun b:Int=>[.int .u8 b]) (GInt .u8):=opensE_int Tryz.underlying5
theorem o29:OpensE ctx PP 29 (fun b:(List Int)=>[.rsl 5 b]) (GList 1 (GInt .u8)):=by
  have h:OpensE ctx PP 5 (ctx.cod 5).enc (GInt .u8):=o5
  exact opensE_slice ctxOk Tryz.underlying29 (by kernel_rfl) (Nat.le_of_ble_eq_true (by kernel_rfl)) (by kernel_rfl) h
end Go.Proofs.YtnmmhkanpfmaaaaGreatDoor.G
