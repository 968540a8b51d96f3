/- What arguments of laws read as, by type. -/
import Derived.Test.YteabefphhanlfaaGreatDoorCtx
import Derived.Test.YteabefphhanlfaaGreatDoorSnd39
namespace Go.Proofs.YteabefphhanlfaaGreatDoor.G
open Go Go.Ev
theorem o9 : OpensE ctx PP 9 (fun b : ByteArray => [.str b]) GStr := opensE_string Tryz.underlying9
theorem o3 : OpensE ctx PP 3 (fun b : Int => [.int .i64 b]) (GInt .i64) := opensE_int Tryz.underlying3
abbrev GSFile : SFile → Prop := GIso (GPair GStr (GPair GStr (GInt .i64))) (fun s => (s.fName, s.fText, s.fKept))
theorem o131 : OpensE ctx PP 131 (fun x : SFile => [.str x.fName, .str x.fText, .int .i64 x.fKept]) GSFile := by
  have h := opensE_iso (fun s : SFile => (s.fName, s.fText, s.fKept)) (fun p => ⟨p.1, p.2.1, p.2.2⟩) (fun _ => rfl) (opensE_struct Tryz.underlying131 rfl (by kernel_rfl) (opensFE_cons (s1 := 1) rfl (by kernel_rfl) o9 (opensFE_cons (s1 := 1) rfl (by kernel_rfl) o9 (opensFE_one (sz := 1) rfl (by kernel_rfl) o3))))
  exact h
theorem o22 : OpensE ctx PP 22 (fun b : (List SFile) => [.rsl 131 b]) (GList 40 GSFile) := by
  have h : OpensE ctx PP 131 (ctx.cod 131).enc GSFile := o131
  exact opensE_slice ctxOk Tryz.underlying22 (by kernel_rfl) (Nat.le_of_ble_eq_true (by kernel_rfl)) (by kernel_rfl) h
abbrev GSDisk : SDisk → Prop := GIso (GList 40 GSFile) (fun s => (s.fFiles))
theorem o24 : OpensE ctx PP 24 (fun x : SDisk => [.rsl 131 x.fFiles]) GSDisk := by
  have h := opensE_iso (fun s : SDisk => (s.fFiles)) (fun p => ⟨p⟩) (fun _ => rfl) (opensE_struct Tryz.underlying24 rfl (by kernel_rfl) (opensFE_one (sz := 1) rfl (by kernel_rfl) o22))
  exact h
theorem o4 : OpensE ctx PP 4 (fun b : Bool => [.bool b]) GBool := opensE_bool Tryz.underlying4
abbrev GSThing : SThing → Prop := GIso (GPair (GInt .i64) (GPair (GInt .i64) (GPair GBool (GPair GBool (GPair GBool (GPair GBool (GPair GStr (GInt .i64)))))))) (fun s => (s.fId, s.fKind, s.fHidden, s.fFixed, s.fSigns, s.fWraps, s.fValue, s.fNext))
theorem o166 : OpensE ctx PP 166 (fun x : SThing => [.int .i64 x.fId, .int .i64 x.fKind, .bool x.fHidden, .bool x.fFixed, .bool x.fSigns, .bool x.fWraps, .str x.fValue, .int .i64 x.fNext]) GSThing := by
  have h := opensE_iso (fun s : SThing => (s.fId, s.fKind, s.fHidden, s.fFixed, s.fSigns, s.fWraps, s.fValue, s.fNext)) (fun p => ⟨p.1, p.2.1, p.2.2.1, p.2.2.2.1, p.2.2.2.2.1, p.2.2.2.2.2.1, p.2.2.2.2.2.2.1, p.2.2.2.2.2.2.2⟩) (fun _ => rfl) (opensE_struct Tryz.underlying166 rfl (by kernel_rfl) (opensFE_cons (s1 := 1) rfl (by kernel_rfl) o3 (opensFE_cons (s1 := 1) rfl (by kernel_rfl) o3 (opensFE_cons (s1 := 1) rfl (by kernel_rfl) o4 (opensFE_cons (s1 := 1) rfl (by kernel_rfl) o4 (opensFE_cons (s1 := 1) rfl (by kernel_rfl) o4 (opensFE_cons (s1 := 1) rfl (by kernel_rfl) o4 (opensFE_cons (s1 := 1) rfl (by kernel_rfl) o9 (opensFE_one (sz := 1) rfl (by kernel_rfl) o3)))))))))
  exact h
theorem o43 : OpensE ctx PP 43 (fun b : (List SThing) => [.rsl 166 b]) (GList 48 GSThing) := by
  have h : OpensE ctx PP 166 (ctx.cod 166).enc GSThing := o166
  exact opensE_slice ctxOk Tryz.underlying43 (by kernel_rfl) (Nat.le_of_ble_eq_true (by kernel_rfl)) (by kernel_rfl) h
abbrev GSBook : SBook → Prop := GIso (GPair GStr (GPair (GInt .i64) (GPair (GList 48 GSThing) (GPair (GInt .i64) (GPair GStr (GInt .i64)))))) (fun s => (s.fWord, s.fTries, s.fThings, s.fLast, s.fChain, s.fCount))
theorem o45 : OpensE ctx PP 45 (fun x : SBook => [.str x.fWord, .int .i64 x.fTries, .rsl 166 x.fThings, .int .i64 x.fLast, .str x.fChain, .int .i64 x.fCount]) GSBook := by
  have h := opensE_iso (fun s : SBook => (s.fWord, s.fTries, s.fThings, s.fLast, s.fChain, s.fCount)) (fun p => ⟨p.1, p.2.1, p.2.2.1, p.2.2.2.1, p.2.2.2.2.1, p.2.2.2.2.2⟩) (fun _ => rfl) (opensE_struct Tryz.underlying45 rfl (by kernel_rfl) (opensFE_cons (s1 := 1) rfl (by kernel_rfl) o9 (opensFE_cons (s1 := 1) rfl (by kernel_rfl) o3 (opensFE_cons (s1 := 1) rfl (by kernel_rfl) o43 (opensFE_cons (s1 := 1) rfl (by kernel_rfl) o3 (opensFE_cons (s1 := 1) rfl (by kernel_rfl) o9 (opensFE_one (sz := 1) rfl (by kernel_rfl) o3)))))))
  exact h
abbrev GSSession : SSession → Prop := GIso (GPair (GInt .i64) GBool) (fun s => (s.fId, s.fIn))
theorem o160 : OpensE ctx PP 160 (fun x : SSession => [.int .i64 x.fId, .bool x.fIn]) GSSession := by
  have h := opensE_iso (fun s : SSession => (s.fId, s.fIn)) (fun p => ⟨p.1, p.2⟩) (fun _ => rfl) (opensE_struct Tryz.underlying160 rfl (by kernel_rfl) (opensFE_cons (s1 := 1) rfl (by kernel_rfl) o3 (opensFE_one (sz := 1) rfl (by kernel_rfl) o4)))
  exact h
theorem o46 : OpensE ctx PP 46 (fun b : (List SSession) => [.rsl 160 b]) (GList 16 GSSession) := by
  have h : OpensE ctx PP 160 (ctx.cod 160).enc GSSession := o160
  exact opensE_slice ctxOk Tryz.underlying46 (by kernel_rfl) (Nat.le_of_ble_eq_true (by kernel_rfl)) (by kernel_rfl) h
abbrev GSLive : SLive → Prop := GIso (GPair (GInt .i64) (GInt .i64)) (fun s => (s.fId, s.fNext))
theorem o162 : OpensE ctx PP 162 (fun x : SLive => [.int .i64 x.fId, .int .i64 x.fNext]) GSLive := by
  have h := opensE_iso (fun s : SLive => (s.fId, s.fNext)) (fun p => ⟨p.1, p.2⟩) (fun _ => rfl) (opensE_struct Tryz.underlying162 rfl (by kernel_rfl) (opensFE_cons (s1 := 1) rfl (by kernel_rfl) o3 (opensFE_one (sz := 1) rfl (by kernel_rfl) o3)))
  exact h
theorem o47 : OpensE ctx PP 47 (fun b : (List SLive) => [.rsl 162 b]) (GList 16 GSLive) := by
  have h : OpensE ctx PP 162 (ctx.cod 162).enc GSLive := o162
  exact opensE_slice ctxOk Tryz.underlying47 (by kernel_rfl) (Nat.le_of_ble_eq_true (by kernel_rfl)) (by kernel_rfl) h
abbrev GSBox : SBox → Prop := GIso (GPair GStr (GPair GBool (GPair GSDisk (GPair GSBook (GPair (GList 16 GSSession) (GPair (GList 16 GSLive) (GInt .i64))))))) (fun s => (s.fKey, s.fUp, s.fDisk, s.fBook, s.fSessions, s.fLives, s.fOpened))
theorem o49 : OpensE ctx PP 49 (fun x : SBox => [.str x.fKey, .bool x.fUp, .rsl 131 x.fDisk.fFiles, .str x.fBook.fWord, .int .i64 x.fBook.fTries, .rsl 166 x.fBook.fThings, .int .i64 x.fBook.fLast, .str x.fBook.fChain, .int .i64 x.fBook.fCount, .rsl 160 x.fSessions, .rsl 162 x.fLives, .int .i64 x.fOpened]) GSBox := by
  have h := opensE_iso (fun s : SBox => (s.fKey, s.fUp, s.fDisk, s.fBook, s.fSessions, s.fLives, s.fOpened)) (fun p => ⟨p.1, p.2.1, p.2.2.1, p.2.2.2.1, p.2.2.2.2.1, p.2.2.2.2.2.1, p.2.2.2.2.2.2⟩) (fun _ => rfl) (opensE_struct Tryz.underlying49 rfl (by kernel_rfl) (opensFE_cons (s1 := 1) rfl (by kernel_rfl) o9 (opensFE_cons (s1 := 1) rfl (by kernel_rfl) o4 (opensFE_cons (s1 := 1) rfl (by kernel_rfl) o24 (opensFE_cons (s1 := 6) rfl (by kernel_rfl) o45 (opensFE_cons (s1 := 1) rfl (by kernel_rfl) o46 (opensFE_cons (s1 := 1) rfl (by kernel_rfl) o47 (opensFE_one (sz := 1) rfl (by kernel_rfl) o3))))))))
  exact h
theorem o59 : OpensE ctx PP 59 (fun b : (List Int) => [.rsl 3 b]) (GList 8 (GInt .i64)) := by
  have h : OpensE ctx PP 3 (ctx.cod 3).enc (GInt .i64) := o3
  exact opensE_slice ctxOk Tryz.underlying59 (by kernel_rfl) (Nat.le_of_ble_eq_true (by kernel_rfl)) (by kernel_rfl) h
theorem o60 : OpensE ctx PP 60 (fun b : (List ByteArray) => [.rsl 9 b]) (GList 16 GStr) := by
  have h : OpensE ctx PP 9 (ctx.cod 9).enc GStr := o9
  exact opensE_slice ctxOk Tryz.underlying60 (by kernel_rfl) (Nat.le_of_ble_eq_true (by kernel_rfl)) (by kernel_rfl) h
abbrev GSGiven : SGiven → Prop := GIso (GPair (GInt .i64) (GPair (GInt .i64) (GInt .i64))) (fun s => (s.fThing, s.fLeaf, s.fWhen))
theorem o170 : OpensE ctx PP 170 (fun x : SGiven => [.int .i64 x.fThing, .int .i64 x.fLeaf, .int .i64 x.fWhen]) GSGiven := by
  have h := opensE_iso (fun s : SGiven => (s.fThing, s.fLeaf, s.fWhen)) (fun p => ⟨p.1, p.2.1, p.2.2⟩) (fun _ => rfl) (opensE_struct Tryz.underlying170 rfl (by kernel_rfl) (opensFE_cons (s1 := 1) rfl (by kernel_rfl) o3 (opensFE_cons (s1 := 1) rfl (by kernel_rfl) o3 (opensFE_one (sz := 1) rfl (by kernel_rfl) o3))))
  exact h
theorem o61 : OpensE ctx PP 61 (fun b : (List SGiven) => [.rsl 170 b]) (GList 24 GSGiven) := by
  have h : OpensE ctx PP 170 (ctx.cod 170).enc GSGiven := o170
  exact opensE_slice ctxOk Tryz.underlying61 (by kernel_rfl) (Nat.le_of_ble_eq_true (by kernel_rfl)) (by kernel_rfl) h
abbrev GSRec : SRec → Prop := GIso (GPair (GInt .i64) (GPair GStr (GPair (GInt .i64) GSThing))) (fun s => (s.fKind, s.fText, s.fNum, s.fThing))
theorem o168 : OpensE ctx PP 168 (fun x : SRec => [.int .i64 x.fKind, .str x.fText, .int .i64 x.fNum, .int .i64 x.fThing.fId, .int .i64 x.fThing.fKind, .bool x.fThing.fHidden, .bool x.fThing.fFixed, .bool x.fThing.fSigns, .bool x.fThing.fWraps, .str x.fThing.fValue, .int .i64 x.fThing.fNext]) GSRec := by
  have h := opensE_iso (fun s : SRec => (s.fKind, s.fText, s.fNum, s.fThing)) (fun p => ⟨p.1, p.2.1, p.2.2.1, p.2.2.2⟩) (fun _ => rfl) (opensE_struct Tryz.underlying168 rfl (by kernel_rfl) (opensFE_cons (s1 := 1) rfl (by kernel_rfl) o3 (opensFE_cons (s1 := 1) rfl (by kernel_rfl) o9 (opensFE_cons (s1 := 1) rfl (by kernel_rfl) o3 (opensFE_one (sz := 8) rfl (by kernel_rfl) o166)))))
  exact h
theorem o62 : OpensE ctx PP 62 (fun b : (List SRec) => [.rsl 168 b]) (GList 80 GSRec) := by
  have h : OpensE ctx PP 168 (ctx.cod 168).enc GSRec := o168
  exact opensE_slice ctxOk Tryz.underlying62 (by kernel_rfl) (Nat.le_of_ble_eq_true (by kernel_rfl)) (by kernel_rfl) h
abbrev GSLife : SLife → Prop := GIso (GPair GSBox (GPair (GList 8 (GInt .i64)) (GPair (GList 16 GStr) (GPair (GList 24 GSGiven) (GList 80 GSRec))))) (fun s => (s.fBox, s.fCodes, s.fReplies, s.fGives, s.fDone))
theorem o64 : OpensE ctx PP 64 (fun x : SLife => [.str x.fBox.fKey, .bool x.fBox.fUp, .rsl 131 x.fBox.fDisk.fFiles, .str x.fBox.fBook.fWord, .int .i64 x.fBox.fBook.fTries, .rsl 166 x.fBox.fBook.fThings, .int .i64 x.fBox.fBook.fLast, .str x.fBox.fBook.fChain, .int .i64 x.fBox.fBook.fCount, .rsl 160 x.fBox.fSessions, .rsl 162 x.fBox.fLives, .int .i64 x.fBox.fOpened, .rsl 3 x.fCodes, .rsl 9 x.fReplies, .rsl 170 x.fGives, .rsl 168 x.fDone]) GSLife := by
  have h := opensE_iso (fun s : SLife => (s.fBox, s.fCodes, s.fReplies, s.fGives, s.fDone)) (fun p => ⟨p.1, p.2.1, p.2.2.1, p.2.2.2.1, p.2.2.2.2⟩) (fun _ => rfl) (opensE_struct Tryz.underlying64 rfl (by kernel_rfl) (opensFE_cons (s1 := 12) rfl (by kernel_rfl) o49 (opensFE_cons (s1 := 1) rfl (by kernel_rfl) o59 (opensFE_cons (s1 := 1) rfl (by kernel_rfl) o60 (opensFE_cons (s1 := 1) rfl (by kernel_rfl) o61 (opensFE_one (sz := 1) rfl (by kernel_rfl) o62))))))
  exact h
end Go.Proofs.YteabefphhanlfaaGreatDoor.G
