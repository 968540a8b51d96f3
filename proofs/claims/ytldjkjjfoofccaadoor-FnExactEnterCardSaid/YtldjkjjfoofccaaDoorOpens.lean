/- What arguments of laws read as, by type. -/
import Derived.Test.YtldjkjjfoofccaaDoorCtx
import Derived.Test.YtldjkjjfoofccaaDoorSnd39
namespace Go.Proofs.YtldjkjjfoofccaaDoor.G
open Go Go.Ev
theorem o9 : OpensE ctx PP 9 (fun b : ByteArray => [.str b]) GStr := opensE_string Tryd.underlying9
theorem o3 : OpensE ctx PP 3 (fun b : Int => [.int .i64 b]) (GInt .i64) := opensE_int Tryd.underlying3
theorem o4 : OpensE ctx PP 4 (fun b : Bool => [.bool b]) GBool := opensE_bool Tryd.underlying4
abbrev GSThing : SThing → Prop := GIso (GPair (GInt .i64) (GPair (GInt .i64) (GPair GBool (GPair GBool (GPair GBool (GPair GBool (GPair GStr (GInt .i64)))))))) (fun s => (s.fId, s.fKind, s.fHidden, s.fFixed, s.fSigns, s.fWraps, s.fValue, s.fNext))
theorem o26 : OpensE ctx PP 26 (fun x : SThing => [.int .i64 x.fId, .int .i64 x.fKind, .bool x.fHidden, .bool x.fFixed, .bool x.fSigns, .bool x.fWraps, .str x.fValue, .int .i64 x.fNext]) GSThing := by
  have h := opensE_iso (fun s : SThing => (s.fId, s.fKind, s.fHidden, s.fFixed, s.fSigns, s.fWraps, s.fValue, s.fNext)) (fun p => ⟨p.1, p.2.1, p.2.2.1, p.2.2.2.1, p.2.2.2.2.1, p.2.2.2.2.2.1, p.2.2.2.2.2.2.1, p.2.2.2.2.2.2.2⟩) (fun _ => rfl) (opensE_struct Tryd.underlying26 rfl (by kernel_rfl) (opensFE_cons (s1 := 1) rfl (by kernel_rfl) o3 (opensFE_cons (s1 := 1) rfl (by kernel_rfl) o3 (opensFE_cons (s1 := 1) rfl (by kernel_rfl) o4 (opensFE_cons (s1 := 1) rfl (by kernel_rfl) o4 (opensFE_cons (s1 := 1) rfl (by kernel_rfl) o4 (opensFE_cons (s1 := 1) rfl (by kernel_rfl) o4 (opensFE_cons (s1 := 1) rfl (by kernel_rfl) o9 (opensFE_one (sz := 1) rfl (by kernel_rfl) o3)))))))))
  exact h
abbrev GSRec : SRec → Prop := GIso (GPair (GInt .i64) (GPair GStr (GPair (GInt .i64) GSThing))) (fun s => (s.fKind, s.fText, s.fNum, s.fThing))
theorem o28 : OpensE ctx PP 28 (fun x : SRec => [.int .i64 x.fKind, .str x.fText, .int .i64 x.fNum, .int .i64 x.fThing.fId, .int .i64 x.fThing.fKind, .bool x.fThing.fHidden, .bool x.fThing.fFixed, .bool x.fThing.fSigns, .bool x.fThing.fWraps, .str x.fThing.fValue, .int .i64 x.fThing.fNext]) GSRec := by
  have h := opensE_iso (fun s : SRec => (s.fKind, s.fText, s.fNum, s.fThing)) (fun p => ⟨p.1, p.2.1, p.2.2.1, p.2.2.2⟩) (fun _ => rfl) (opensE_struct Tryd.underlying28 rfl (by kernel_rfl) (opensFE_cons (s1 := 1) rfl (by kernel_rfl) o3 (opensFE_cons (s1 := 1) rfl (by kernel_rfl) o9 (opensFE_cons (s1 := 1) rfl (by kernel_rfl) o3 (opensFE_one (sz := 8) rfl (by kernel_rfl) o26)))))
  exact h
theorem o40 : OpensE ctx PP 40 (fun b : (List SRec) => [.rsl 28 b]) (GList 80 GSRec) := by
  have h : OpensE ctx PP 28 (ctx.cod 28).enc GSRec := o28
  exact opensE_slice ctxOk Tryd.underlying40 (by kernel_rfl) (Nat.le_of_ble_eq_true (by kernel_rfl)) (by kernel_rfl) h
theorem o47 : OpensE ctx PP 47 (fun b : (List SThing) => [.rsl 26 b]) (GList 48 GSThing) := by
  have h : OpensE ctx PP 26 (ctx.cod 26).enc GSThing := o26
  exact opensE_slice ctxOk Tryd.underlying47 (by kernel_rfl) (Nat.le_of_ble_eq_true (by kernel_rfl)) (by kernel_rfl) h
abbrev GSBook : SBook → Prop := GIso (GPair GStr (GPair (GInt .i64) (GPair (GList 48 GSThing) (GPair (GInt .i64) (GPair GStr (GInt .i64)))))) (fun s => (s.fWord, s.fTries, s.fThings, s.fLast, s.fChain, s.fCount))
theorem o49 : OpensE ctx PP 49 (fun x : SBook => [.str x.fWord, .int .i64 x.fTries, .rsl 26 x.fThings, .int .i64 x.fLast, .str x.fChain, .int .i64 x.fCount]) GSBook := by
  have h := opensE_iso (fun s : SBook => (s.fWord, s.fTries, s.fThings, s.fLast, s.fChain, s.fCount)) (fun p => ⟨p.1, p.2.1, p.2.2.1, p.2.2.2.1, p.2.2.2.2.1, p.2.2.2.2.2⟩) (fun _ => rfl) (opensE_struct Tryd.underlying49 rfl (by kernel_rfl) (opensFE_cons (s1 := 1) rfl (by kernel_rfl) o9 (opensFE_cons (s1 := 1) rfl (by kernel_rfl) o3 (opensFE_cons (s1 := 1) rfl (by kernel_rfl) o47 (opensFE_cons (s1 := 1) rfl (by kernel_rfl) o3 (opensFE_cons (s1 := 1) rfl (by kernel_rfl) o9 (opensFE_one (sz := 1) rfl (by kernel_rfl) o3)))))))
  exact h
abbrev GSFile : SFile → Prop := GIso (GPair GStr (GPair GStr (GInt .i64))) (fun s => (s.fName, s.fText, s.fKept))
theorem o186 : OpensE ctx PP 186 (fun x : SFile => [.str x.fName, .str x.fText, .int .i64 x.fKept]) GSFile := by
  have h := opensE_iso (fun s : SFile => (s.fName, s.fText, s.fKept)) (fun p => ⟨p.1, p.2.1, p.2.2⟩) (fun _ => rfl) (opensE_struct Tryd.underlying186 rfl (by kernel_rfl) (opensFE_cons (s1 := 1) rfl (by kernel_rfl) o9 (opensFE_cons (s1 := 1) rfl (by kernel_rfl) o9 (opensFE_one (sz := 1) rfl (by kernel_rfl) o3))))
  exact h
theorem o62 : OpensE ctx PP 62 (fun b : (List SFile) => [.rsl 186 b]) (GList 40 GSFile) := by
  have h : OpensE ctx PP 186 (ctx.cod 186).enc GSFile := o186
  exact opensE_slice ctxOk Tryd.underlying62 (by kernel_rfl) (Nat.le_of_ble_eq_true (by kernel_rfl)) (by kernel_rfl) h
abbrev GSDisk : SDisk → Prop := GIso (GList 40 GSFile) (fun s => (s.fFiles))
theorem o64 : OpensE ctx PP 64 (fun x : SDisk => [.rsl 186 x.fFiles]) GSDisk := by
  have h := opensE_iso (fun s : SDisk => (s.fFiles)) (fun p => ⟨p⟩) (fun _ => rfl) (opensE_struct Tryd.underlying64 rfl (by kernel_rfl) (opensFE_one (sz := 1) rfl (by kernel_rfl) o62))
  exact h
abbrev GSSession : SSession → Prop := GIso (GPair (GInt .i64) GBool) (fun s => (s.fId, s.fIn))
theorem o157 : OpensE ctx PP 157 (fun x : SSession => [.int .i64 x.fId, .bool x.fIn]) GSSession := by
  have h := opensE_iso (fun s : SSession => (s.fId, s.fIn)) (fun p => ⟨p.1, p.2⟩) (fun _ => rfl) (opensE_struct Tryd.underlying157 rfl (by kernel_rfl) (opensFE_cons (s1 := 1) rfl (by kernel_rfl) o3 (opensFE_one (sz := 1) rfl (by kernel_rfl) o4)))
  exact h
theorem o65 : OpensE ctx PP 65 (fun b : (List SSession) => [.rsl 157 b]) (GList 16 GSSession) := by
  have h : OpensE ctx PP 157 (ctx.cod 157).enc GSSession := o157
  exact opensE_slice ctxOk Tryd.underlying65 (by kernel_rfl) (Nat.le_of_ble_eq_true (by kernel_rfl)) (by kernel_rfl) h
abbrev GSLive : SLive → Prop := GIso (GPair (GInt .i64) (GInt .i64)) (fun s => (s.fId, s.fNext))
theorem o161 : OpensE ctx PP 161 (fun x : SLive => [.int .i64 x.fId, .int .i64 x.fNext]) GSLive := by
  have h := opensE_iso (fun s : SLive => (s.fId, s.fNext)) (fun p => ⟨p.1, p.2⟩) (fun _ => rfl) (opensE_struct Tryd.underlying161 rfl (by kernel_rfl) (opensFE_cons (s1 := 1) rfl (by kernel_rfl) o3 (opensFE_one (sz := 1) rfl (by kernel_rfl) o3)))
  exact h
theorem o66 : OpensE ctx PP 66 (fun b : (List SLive) => [.rsl 161 b]) (GList 16 GSLive) := by
  have h : OpensE ctx PP 161 (ctx.cod 161).enc GSLive := o161
  exact opensE_slice ctxOk Tryd.underlying66 (by kernel_rfl) (Nat.le_of_ble_eq_true (by kernel_rfl)) (by kernel_rfl) h
abbrev GSBox : SBox → Prop := GIso (GPair GStr (GPair GBool (GPair GSDisk (GPair GSBook (GPair (GList 16 GSSession) (GPair (GList 16 GSLive) (GInt .i64))))))) (fun s => (s.fKey, s.fUp, s.fDisk, s.fBook, s.fSessions, s.fLives, s.fOpened))
theorem o68 : OpensE ctx PP 68 (fun x : SBox => [.str x.fKey, .bool x.fUp, .rsl 186 x.fDisk.fFiles, .str x.fBook.fWord, .int .i64 x.fBook.fTries, .rsl 26 x.fBook.fThings, .int .i64 x.fBook.fLast, .str x.fBook.fChain, .int .i64 x.fBook.fCount, .rsl 157 x.fSessions, .rsl 161 x.fLives, .int .i64 x.fOpened]) GSBox := by
  have h := opensE_iso (fun s : SBox => (s.fKey, s.fUp, s.fDisk, s.fBook, s.fSessions, s.fLives, s.fOpened)) (fun p => ⟨p.1, p.2.1, p.2.2.1, p.2.2.2.1, p.2.2.2.2.1, p.2.2.2.2.2.1, p.2.2.2.2.2.2⟩) (fun _ => rfl) (opensE_struct Tryd.underlying68 rfl (by kernel_rfl) (opensFE_cons (s1 := 1) rfl (by kernel_rfl) o9 (opensFE_cons (s1 := 1) rfl (by kernel_rfl) o4 (opensFE_cons (s1 := 1) rfl (by kernel_rfl) o64 (opensFE_cons (s1 := 6) rfl (by kernel_rfl) o49 (opensFE_cons (s1 := 1) rfl (by kernel_rfl) o65 (opensFE_cons (s1 := 1) rfl (by kernel_rfl) o66 (opensFE_one (sz := 1) rfl (by kernel_rfl) o3))))))))
  exact h
end Go.Proofs.YtldjkjjfoofccaaDoor.G
