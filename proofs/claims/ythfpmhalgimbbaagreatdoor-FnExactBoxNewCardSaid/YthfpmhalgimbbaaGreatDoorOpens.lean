/- What arguments of laws read as, by type. -/
import Derived.Test.YthfpmhalgimbbaaGreatDoorCtx
import Derived.Test.YthfpmhalgimbbaaGreatDoorSnd39
namespace Go.Proofs.YthfpmhalgimbbaaGreatDoor.G
open Go Go.Ev
theorem o9 : OpensE ctx PP 9 (fun b : ByteArray => [.str b]) GStr := opensE_string Tryz.underlying9
theorem o4 : OpensE ctx PP 4 (fun b : Bool => [.bool b]) GBool := opensE_bool Tryz.underlying4
theorem o3 : OpensE ctx PP 3 (fun b : Int => [.int .i64 b]) (GInt .i64) := opensE_int Tryz.underlying3
abbrev GSFile : SFile → Prop := GIso (GPair GStr (GPair GStr (GInt .i64))) (fun s => (s.fName, s.fText, s.fKept))
theorem o197 : OpensE ctx PP 197 (fun x : SFile => [.str x.fName, .str x.fText, .int .i64 x.fKept]) GSFile := by
  have h := opensE_iso (fun s : SFile => (s.fName, s.fText, s.fKept)) (fun p => ⟨p.1, p.2.1, p.2.2⟩) (fun _ => rfl) (opensE_struct Tryz.underlying197 rfl (by kernel_rfl) (opensFE_cons (s1 := 1) rfl (by kernel_rfl) o9 (opensFE_cons (s1 := 1) rfl (by kernel_rfl) o9 (opensFE_one (sz := 1) rfl (by kernel_rfl) o3))))
  exact h
theorem o37 : OpensE ctx PP 37 (fun b : (List SFile) => [.rsl 197 b]) (GList 40 GSFile) := by
  have h : OpensE ctx PP 197 (ctx.cod 197).enc GSFile := o197
  exact opensE_slice ctxOk Tryz.underlying37 (by kernel_rfl) (Nat.le_of_ble_eq_true (by kernel_rfl)) (by kernel_rfl) h
abbrev GSDisk : SDisk → Prop := GIso (GList 40 GSFile) (fun s => (s.fFiles))
theorem o39 : OpensE ctx PP 39 (fun x : SDisk => [.rsl 197 x.fFiles]) GSDisk := by
  have h := opensE_iso (fun s : SDisk => (s.fFiles)) (fun p => ⟨p⟩) (fun _ => rfl) (opensE_struct Tryz.underlying39 rfl (by kernel_rfl) (opensFE_one (sz := 1) rfl (by kernel_rfl) o37))
  exact h
abbrev GSThing : SThing → Prop := GIso (GPair (GInt .i64) (GPair (GInt .i64) (GPair GBool (GPair GBool (GPair GBool (GPair GBool (GPair GStr (GInt .i64)))))))) (fun s => (s.fId, s.fKind, s.fHidden, s.fFixed, s.fSigns, s.fWraps, s.fValue, s.fNext))
theorem o171 : OpensE ctx PP 171 (fun x : SThing => [.int .i64 x.fId, .int .i64 x.fKind, .bool x.fHidden, .bool x.fFixed, .bool x.fSigns, .bool x.fWraps, .str x.fValue, .int .i64 x.fNext]) GSThing := by
  have h := opensE_iso (fun s : SThing => (s.fId, s.fKind, s.fHidden, s.fFixed, s.fSigns, s.fWraps, s.fValue, s.fNext)) (fun p => ⟨p.1, p.2.1, p.2.2.1, p.2.2.2.1, p.2.2.2.2.1, p.2.2.2.2.2.1, p.2.2.2.2.2.2.1, p.2.2.2.2.2.2.2⟩) (fun _ => rfl) (opensE_struct Tryz.underlying171 rfl (by kernel_rfl) (opensFE_cons (s1 := 1) rfl (by kernel_rfl) o3 (opensFE_cons (s1 := 1) rfl (by kernel_rfl) o3 (opensFE_cons (s1 := 1) rfl (by kernel_rfl) o4 (opensFE_cons (s1 := 1) rfl (by kernel_rfl) o4 (opensFE_cons (s1 := 1) rfl (by kernel_rfl) o4 (opensFE_cons (s1 := 1) rfl (by kernel_rfl) o4 (opensFE_cons (s1 := 1) rfl (by kernel_rfl) o9 (opensFE_one (sz := 1) rfl (by kernel_rfl) o3)))))))))
  exact h
theorem o40 : OpensE ctx PP 40 (fun b : (List SThing) => [.rsl 171 b]) (GList 48 GSThing) := by
  have h : OpensE ctx PP 171 (ctx.cod 171).enc GSThing := o171
  exact opensE_slice ctxOk Tryz.underlying40 (by kernel_rfl) (Nat.le_of_ble_eq_true (by kernel_rfl)) (by kernel_rfl) h
abbrev GSBook : SBook → Prop := GIso (GPair GStr (GPair (GInt .i64) (GPair (GList 48 GSThing) (GPair (GInt .i64) (GPair GStr (GInt .i64)))))) (fun s => (s.fWord, s.fTries, s.fThings, s.fLast, s.fChain, s.fCount))
theorem o42 : OpensE ctx PP 42 (fun x : SBook => [.str x.fWord, .int .i64 x.fTries, .rsl 171 x.fThings, .int .i64 x.fLast, .str x.fChain, .int .i64 x.fCount]) GSBook := by
  have h := opensE_iso (fun s : SBook => (s.fWord, s.fTries, s.fThings, s.fLast, s.fChain, s.fCount)) (fun p => ⟨p.1, p.2.1, p.2.2.1, p.2.2.2.1, p.2.2.2.2.1, p.2.2.2.2.2⟩) (fun _ => rfl) (opensE_struct Tryz.underlying42 rfl (by kernel_rfl) (opensFE_cons (s1 := 1) rfl (by kernel_rfl) o9 (opensFE_cons (s1 := 1) rfl (by kernel_rfl) o3 (opensFE_cons (s1 := 1) rfl (by kernel_rfl) o40 (opensFE_cons (s1 := 1) rfl (by kernel_rfl) o3 (opensFE_cons (s1 := 1) rfl (by kernel_rfl) o9 (opensFE_one (sz := 1) rfl (by kernel_rfl) o3)))))))
  exact h
abbrev GSSession : SSession → Prop := GIso (GPair (GInt .i64) GBool) (fun s => (s.fId, s.fIn))
theorem o167 : OpensE ctx PP 167 (fun x : SSession => [.int .i64 x.fId, .bool x.fIn]) GSSession := by
  have h := opensE_iso (fun s : SSession => (s.fId, s.fIn)) (fun p => ⟨p.1, p.2⟩) (fun _ => rfl) (opensE_struct Tryz.underlying167 rfl (by kernel_rfl) (opensFE_cons (s1 := 1) rfl (by kernel_rfl) o3 (opensFE_one (sz := 1) rfl (by kernel_rfl) o4)))
  exact h
theorem o43 : OpensE ctx PP 43 (fun b : (List SSession) => [.rsl 167 b]) (GList 16 GSSession) := by
  have h : OpensE ctx PP 167 (ctx.cod 167).enc GSSession := o167
  exact opensE_slice ctxOk Tryz.underlying43 (by kernel_rfl) (Nat.le_of_ble_eq_true (by kernel_rfl)) (by kernel_rfl) h
abbrev GSLive : SLive → Prop := GIso (GPair (GInt .i64) (GInt .i64)) (fun s => (s.fId, s.fNext))
theorem o169 : OpensE ctx PP 169 (fun x : SLive => [.int .i64 x.fId, .int .i64 x.fNext]) GSLive := by
  have h := opensE_iso (fun s : SLive => (s.fId, s.fNext)) (fun p => ⟨p.1, p.2⟩) (fun _ => rfl) (opensE_struct Tryz.underlying169 rfl (by kernel_rfl) (opensFE_cons (s1 := 1) rfl (by kernel_rfl) o3 (opensFE_one (sz := 1) rfl (by kernel_rfl) o3)))
  exact h
theorem o44 : OpensE ctx PP 44 (fun b : (List SLive) => [.rsl 169 b]) (GList 16 GSLive) := by
  have h : OpensE ctx PP 169 (ctx.cod 169).enc GSLive := o169
  exact opensE_slice ctxOk Tryz.underlying44 (by kernel_rfl) (Nat.le_of_ble_eq_true (by kernel_rfl)) (by kernel_rfl) h
abbrev GSBox : SBox → Prop := GIso (GPair GStr (GPair GBool (GPair GSDisk (GPair GSBook (GPair (GList 16 GSSession) (GPair (GList 16 GSLive) (GInt .i64))))))) (fun s => (s.fKey, s.fUp, s.fDisk, s.fBook, s.fSessions, s.fLives, s.fOpened))
theorem o46 : OpensE ctx PP 46 (fun x : SBox => [.str x.fKey, .bool x.fUp, .rsl 197 x.fDisk.fFiles, .str x.fBook.fWord, .int .i64 x.fBook.fTries, .rsl 171 x.fBook.fThings, .int .i64 x.fBook.fLast, .str x.fBook.fChain, .int .i64 x.fBook.fCount, .rsl 167 x.fSessions, .rsl 169 x.fLives, .int .i64 x.fOpened]) GSBox := by
  have h := opensE_iso (fun s : SBox => (s.fKey, s.fUp, s.fDisk, s.fBook, s.fSessions, s.fLives, s.fOpened)) (fun p => ⟨p.1, p.2.1, p.2.2.1, p.2.2.2.1, p.2.2.2.2.1, p.2.2.2.2.2.1, p.2.2.2.2.2.2⟩) (fun _ => rfl) (opensE_struct Tryz.underlying46 rfl (by kernel_rfl) (opensFE_cons (s1 := 1) rfl (by kernel_rfl) o9 (opensFE_cons (s1 := 1) rfl (by kernel_rfl) o4 (opensFE_cons (s1 := 1) rfl (by kernel_rfl) o39 (opensFE_cons (s1 := 6) rfl (by kernel_rfl) o42 (opensFE_cons (s1 := 1) rfl (by kernel_rfl) o43 (opensFE_cons (s1 := 1) rfl (by kernel_rfl) o44 (opensFE_one (sz := 1) rfl (by kernel_rfl) o3))))))))
  exact h
theorem o51 : OpensE ctx PP 51 (fun b : (List Int) => [.rsl 3 b]) (GList 8 (GInt .i64)) := by
  have h : OpensE ctx PP 3 (ctx.cod 3).enc (GInt .i64) := o3
  exact opensE_slice ctxOk Tryz.underlying51 (by kernel_rfl) (Nat.le_of_ble_eq_true (by kernel_rfl)) (by kernel_rfl) h
theorem o52 : OpensE ctx PP 52 (fun b : (List ByteArray) => [.rsl 9 b]) (GList 16 GStr) := by
  have h : OpensE ctx PP 9 (ctx.cod 9).enc GStr := o9
  exact opensE_slice ctxOk Tryz.underlying52 (by kernel_rfl) (Nat.le_of_ble_eq_true (by kernel_rfl)) (by kernel_rfl) h
abbrev GSGiven : SGiven → Prop := GIso (GPair (GInt .i64) (GPair (GInt .i64) (GInt .i64))) (fun s => (s.fThing, s.fLeaf, s.fWhen))
theorem o175 : OpensE ctx PP 175 (fun x : SGiven => [.int .i64 x.fThing, .int .i64 x.fLeaf, .int .i64 x.fWhen]) GSGiven := by
  have h := opensE_iso (fun s : SGiven => (s.fThing, s.fLeaf, s.fWhen)) (fun p => ⟨p.1, p.2.1, p.2.2⟩) (fun _ => rfl) (opensE_struct Tryz.underlying175 rfl (by kernel_rfl) (opensFE_cons (s1 := 1) rfl (by kernel_rfl) o3 (opensFE_cons (s1 := 1) rfl (by kernel_rfl) o3 (opensFE_one (sz := 1) rfl (by kernel_rfl) o3))))
  exact h
theorem o53 : OpensE ctx PP 53 (fun b : (List SGiven) => [.rsl 175 b]) (GList 24 GSGiven) := by
  have h : OpensE ctx PP 175 (ctx.cod 175).enc GSGiven := o175
  exact opensE_slice ctxOk Tryz.underlying53 (by kernel_rfl) (Nat.le_of_ble_eq_true (by kernel_rfl)) (by kernel_rfl) h
abbrev GSRec : SRec → Prop := GIso (GPair (GInt .i64) (GPair GStr (GPair (GInt .i64) GSThing))) (fun s => (s.fKind, s.fText, s.fNum, s.fThing))
theorem o173 : OpensE ctx PP 173 (fun x : SRec => [.int .i64 x.fKind, .str x.fText, .int .i64 x.fNum, .int .i64 x.fThing.fId, .int .i64 x.fThing.fKind, .bool x.fThing.fHidden, .bool x.fThing.fFixed, .bool x.fThing.fSigns, .bool x.fThing.fWraps, .str x.fThing.fValue, .int .i64 x.fThing.fNext]) GSRec := by
  have h := opensE_iso (fun s : SRec => (s.fKind, s.fText, s.fNum, s.fThing)) (fun p => ⟨p.1, p.2.1, p.2.2.1, p.2.2.2⟩) (fun _ => rfl) (opensE_struct Tryz.underlying173 rfl (by kernel_rfl) (opensFE_cons (s1 := 1) rfl (by kernel_rfl) o3 (opensFE_cons (s1 := 1) rfl (by kernel_rfl) o9 (opensFE_cons (s1 := 1) rfl (by kernel_rfl) o3 (opensFE_one (sz := 8) rfl (by kernel_rfl) o171)))))
  exact h
theorem o54 : OpensE ctx PP 54 (fun b : (List SRec) => [.rsl 173 b]) (GList 80 GSRec) := by
  have h : OpensE ctx PP 173 (ctx.cod 173).enc GSRec := o173
  exact opensE_slice ctxOk Tryz.underlying54 (by kernel_rfl) (Nat.le_of_ble_eq_true (by kernel_rfl)) (by kernel_rfl) h
abbrev GSLife : SLife → Prop := GIso (GPair GSBox (GPair (GList 8 (GInt .i64)) (GPair (GList 16 GStr) (GPair (GList 24 GSGiven) (GList 80 GSRec))))) (fun s => (s.fBox, s.fCodes, s.fReplies, s.fGives, s.fDone))
theorem o56 : OpensE ctx PP 56 (fun x : SLife => [.str x.fBox.fKey, .bool x.fBox.fUp, .rsl 197 x.fBox.fDisk.fFiles, .str x.fBox.fBook.fWord, .int .i64 x.fBox.fBook.fTries, .rsl 171 x.fBox.fBook.fThings, .int .i64 x.fBox.fBook.fLast, .str x.fBox.fBook.fChain, .int .i64 x.fBox.fBook.fCount, .rsl 167 x.fBox.fSessions, .rsl 169 x.fBox.fLives, .int .i64 x.fBox.fOpened, .rsl 3 x.fCodes, .rsl 9 x.fReplies, .rsl 175 x.fGives, .rsl 173 x.fDone]) GSLife := by
  have h := opensE_iso (fun s : SLife => (s.fBox, s.fCodes, s.fReplies, s.fGives, s.fDone)) (fun p => ⟨p.1, p.2.1, p.2.2.1, p.2.2.2.1, p.2.2.2.2⟩) (fun _ => rfl) (opensE_struct Tryz.underlying56 rfl (by kernel_rfl) (opensFE_cons (s1 := 12) rfl (by kernel_rfl) o46 (opensFE_cons (s1 := 1) rfl (by kernel_rfl) o51 (opensFE_cons (s1 := 1) rfl (by kernel_rfl) o52 (opensFE_cons (s1 := 1) rfl (by kernel_rfl) o53 (opensFE_one (sz := 1) rfl (by kernel_rfl) o54))))))
  exact h
end Go.Proofs.YthfpmhalgimbbaaGreatDoor.G
