/- What arguments of laws read as, by type. -/
import Derived.Test.YtmhggcgkbenedaaCtx
import Derived.Test.YtmhggcgkbenedaaSnd39
namespace Go.Proofs.Ytmhggcgkbenedaa.G
open Go Go.Ev
theorem o3 : OpensE ctx PP 3 (fun b : Int => [.int .i64 b]) (GInt .i64) := opensE_int Try.underlying3
theorem o4 : OpensE ctx PP 4 (fun b : Bool => [.bool b]) GBool := opensE_bool Try.underlying4
theorem o9 : OpensE ctx PP 9 (fun b : ByteArray => [.str b]) GStr := opensE_string Try.underlying9
abbrev GSThing : SThing → Prop := GIso (GPair (GInt .i64) (GPair (GInt .i64) (GPair GBool (GPair GBool (GPair GBool (GPair GBool (GPair GStr (GInt .i64)))))))) (fun s => (s.fId, s.fKind, s.fHidden, s.fFixed, s.fSigns, s.fWraps, s.fValue, s.fNext))
theorem o23 : OpensE ctx PP 23 (fun x : SThing => [.int .i64 x.fId, .int .i64 x.fKind, .bool x.fHidden, .bool x.fFixed, .bool x.fSigns, .bool x.fWraps, .str x.fValue, .int .i64 x.fNext]) GSThing := by
  have h := opensE_iso (fun s : SThing => (s.fId, s.fKind, s.fHidden, s.fFixed, s.fSigns, s.fWraps, s.fValue, s.fNext)) (fun p => ⟨p.1, p.2.1, p.2.2.1, p.2.2.2.1, p.2.2.2.2.1, p.2.2.2.2.2.1, p.2.2.2.2.2.2.1, p.2.2.2.2.2.2.2⟩) (fun _ => rfl) (opensE_struct Try.underlying23 rfl (by kernel_rfl) (opensFE_cons (s1 := 1) rfl (by kernel_rfl) o3 (opensFE_cons (s1 := 1) rfl (by kernel_rfl) o3 (opensFE_cons (s1 := 1) rfl (by kernel_rfl) o4 (opensFE_cons (s1 := 1) rfl (by kernel_rfl) o4 (opensFE_cons (s1 := 1) rfl (by kernel_rfl) o4 (opensFE_cons (s1 := 1) rfl (by kernel_rfl) o4 (opensFE_cons (s1 := 1) rfl (by kernel_rfl) o9 (opensFE_one (sz := 1) rfl (by kernel_rfl) o3)))))))))
  exact h
abbrev GSGiven : SGiven → Prop := GIso (GPair (GInt .i64) (GPair (GInt .i64) (GInt .i64))) (fun s => (s.fThing, s.fLeaf, s.fWhen))
theorem o89 : OpensE ctx PP 89 (fun x : SGiven => [.int .i64 x.fThing, .int .i64 x.fLeaf, .int .i64 x.fWhen]) GSGiven := by
  have h := opensE_iso (fun s : SGiven => (s.fThing, s.fLeaf, s.fWhen)) (fun p => ⟨p.1, p.2.1, p.2.2⟩) (fun _ => rfl) (opensE_struct Try.underlying89 rfl (by kernel_rfl) (opensFE_cons (s1 := 1) rfl (by kernel_rfl) o3 (opensFE_cons (s1 := 1) rfl (by kernel_rfl) o3 (opensFE_one (sz := 1) rfl (by kernel_rfl) o3))))
  exact h
theorem o30 : OpensE ctx PP 30 (fun b : (List SGiven) => [.rsl 89 b]) (GList 24 GSGiven) := by
  have h : OpensE ctx PP 89 (ctx.cod 89).enc GSGiven := o89
  exact opensE_slice ctxOk Try.underlying30 (by kernel_rfl) (Nat.le_of_ble_eq_true (by kernel_rfl)) (by kernel_rfl) h
abbrev GSCall : SCall → Prop := GIso (GPair (GInt .i64) (GPair (GInt .i64) (GPair (GInt .i64) (GPair (GInt .i64) (GPair GStr (GPair GBool GBool)))))) (fun s => (s.fOp, s.fSession, s.fThing, s.fKind, s.fText, s.fHidden, s.fFixed))
theorem o42 : OpensE ctx PP 42 (fun x : SCall => [.int .i64 x.fOp, .int .i64 x.fSession, .int .i64 x.fThing, .int .i64 x.fKind, .str x.fText, .bool x.fHidden, .bool x.fFixed]) GSCall := by
  have h := opensE_iso (fun s : SCall => (s.fOp, s.fSession, s.fThing, s.fKind, s.fText, s.fHidden, s.fFixed)) (fun p => ⟨p.1, p.2.1, p.2.2.1, p.2.2.2.1, p.2.2.2.2.1, p.2.2.2.2.2.1, p.2.2.2.2.2.2⟩) (fun _ => rfl) (opensE_struct Try.underlying42 rfl (by kernel_rfl) (opensFE_cons (s1 := 1) rfl (by kernel_rfl) o3 (opensFE_cons (s1 := 1) rfl (by kernel_rfl) o3 (opensFE_cons (s1 := 1) rfl (by kernel_rfl) o3 (opensFE_cons (s1 := 1) rfl (by kernel_rfl) o3 (opensFE_cons (s1 := 1) rfl (by kernel_rfl) o9 (opensFE_cons (s1 := 1) rfl (by kernel_rfl) o4 (opensFE_one (sz := 1) rfl (by kernel_rfl) o4))))))))
  exact h
theorem o32 : OpensE ctx PP 32 (fun b : (List Int) => [.rsl 3 b]) (GList 8 (GInt .i64)) := by
  have h : OpensE ctx PP 3 (ctx.cod 3).enc (GInt .i64) := o3
  exact opensE_slice ctxOk Try.underlying32 (by kernel_rfl) (Nat.le_of_ble_eq_true (by kernel_rfl)) (by kernel_rfl) h
abbrev GSEvent : SEvent → Prop := GIso (GPair GSCall (GPair GBool (GPair (GList 8 (GInt .i64)) GBool))) (fun s => (s.fCall, s.fCut, s.fLeft, s.fRise))
theorem o44 : OpensE ctx PP 44 (fun x : SEvent => [.int .i64 x.fCall.fOp, .int .i64 x.fCall.fSession, .int .i64 x.fCall.fThing, .int .i64 x.fCall.fKind, .str x.fCall.fText, .bool x.fCall.fHidden, .bool x.fCall.fFixed, .bool x.fCut, .rsl 3 x.fLeft, .bool x.fRise]) GSEvent := by
  have h := opensE_iso (fun s : SEvent => (s.fCall, s.fCut, s.fLeft, s.fRise)) (fun p => ⟨p.1, p.2.1, p.2.2.1, p.2.2.2⟩) (fun _ => rfl) (opensE_struct Try.underlying44 rfl (by kernel_rfl) (opensFE_cons (s1 := 7) rfl (by kernel_rfl) o42 (opensFE_cons (s1 := 1) rfl (by kernel_rfl) o4 (opensFE_cons (s1 := 1) rfl (by kernel_rfl) o32 (opensFE_one (sz := 1) rfl (by kernel_rfl) o4)))))
  exact h
theorem o53 : OpensE ctx PP 53 (fun b : (List SThing) => [.rsl 23 b]) (GList 48 GSThing) := by
  have h : OpensE ctx PP 23 (ctx.cod 23).enc GSThing := o23
  exact opensE_slice ctxOk Try.underlying53 (by kernel_rfl) (Nat.le_of_ble_eq_true (by kernel_rfl)) (by kernel_rfl) h
abbrev GSBook : SBook → Prop := GIso (GPair GStr (GPair (GInt .i64) (GPair (GList 48 GSThing) (GPair (GInt .i64) (GPair GStr (GInt .i64)))))) (fun s => (s.fWord, s.fTries, s.fThings, s.fLast, s.fChain, s.fCount))
theorem o55 : OpensE ctx PP 55 (fun x : SBook => [.str x.fWord, .int .i64 x.fTries, .rsl 23 x.fThings, .int .i64 x.fLast, .str x.fChain, .int .i64 x.fCount]) GSBook := by
  have h := opensE_iso (fun s : SBook => (s.fWord, s.fTries, s.fThings, s.fLast, s.fChain, s.fCount)) (fun p => ⟨p.1, p.2.1, p.2.2.1, p.2.2.2.1, p.2.2.2.2.1, p.2.2.2.2.2⟩) (fun _ => rfl) (opensE_struct Try.underlying55 rfl (by kernel_rfl) (opensFE_cons (s1 := 1) rfl (by kernel_rfl) o9 (opensFE_cons (s1 := 1) rfl (by kernel_rfl) o3 (opensFE_cons (s1 := 1) rfl (by kernel_rfl) o53 (opensFE_cons (s1 := 1) rfl (by kernel_rfl) o3 (opensFE_cons (s1 := 1) rfl (by kernel_rfl) o9 (opensFE_one (sz := 1) rfl (by kernel_rfl) o3)))))))
  exact h
abbrev GSRec : SRec → Prop := GIso (GPair (GInt .i64) (GPair GStr (GPair (GInt .i64) GSThing))) (fun s => (s.fKind, s.fText, s.fNum, s.fThing))
theorem o67 : OpensE ctx PP 67 (fun x : SRec => [.int .i64 x.fKind, .str x.fText, .int .i64 x.fNum, .int .i64 x.fThing.fId, .int .i64 x.fThing.fKind, .bool x.fThing.fHidden, .bool x.fThing.fFixed, .bool x.fThing.fSigns, .bool x.fThing.fWraps, .str x.fThing.fValue, .int .i64 x.fThing.fNext]) GSRec := by
  have h := opensE_iso (fun s : SRec => (s.fKind, s.fText, s.fNum, s.fThing)) (fun p => ⟨p.1, p.2.1, p.2.2.1, p.2.2.2⟩) (fun _ => rfl) (opensE_struct Try.underlying67 rfl (by kernel_rfl) (opensFE_cons (s1 := 1) rfl (by kernel_rfl) o3 (opensFE_cons (s1 := 1) rfl (by kernel_rfl) o9 (opensFE_cons (s1 := 1) rfl (by kernel_rfl) o3 (opensFE_one (sz := 8) rfl (by kernel_rfl) o23)))))
  exact h
end Go.Proofs.Ytmhggcgkbenedaa.G
