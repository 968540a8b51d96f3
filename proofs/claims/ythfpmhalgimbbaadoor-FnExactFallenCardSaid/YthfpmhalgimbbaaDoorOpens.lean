/- What arguments of laws read as, by type. -/
import Derived.Test.YthfpmhalgimbbaaDoorCtx
import Derived.Test.YthfpmhalgimbbaaDoorSnd39
namespace Go.Proofs.YthfpmhalgimbbaaDoor.G
open Go Go.Ev
theorem o9 : OpensE ctx PP 9 (fun b : ByteArray => [.str b]) GStr := opensE_string Tryd.underlying9
theorem o3 : OpensE ctx PP 3 (fun b : Int => [.int .i64 b]) (GInt .i64) := opensE_int Tryd.underlying3
theorem o4 : OpensE ctx PP 4 (fun b : Bool => [.bool b]) GBool := opensE_bool Tryd.underlying4
abbrev GSThing : SThing → Prop := GIso (GPair (GInt .i64) (GPair (GInt .i64) (GPair GBool (GPair GBool (GPair GBool (GPair GBool (GPair GStr (GInt .i64)))))))) (fun s => (s.fId, s.fKind, s.fHidden, s.fFixed, s.fSigns, s.fWraps, s.fValue, s.fNext))
theorem o81 : OpensE ctx PP 81 (fun x : SThing => [.int .i64 x.fId, .int .i64 x.fKind, .bool x.fHidden, .bool x.fFixed, .bool x.fSigns, .bool x.fWraps, .str x.fValue, .int .i64 x.fNext]) GSThing := by
  have h := opensE_iso (fun s : SThing => (s.fId, s.fKind, s.fHidden, s.fFixed, s.fSigns, s.fWraps, s.fValue, s.fNext)) (fun p => ⟨p.1, p.2.1, p.2.2.1, p.2.2.2.1, p.2.2.2.2.1, p.2.2.2.2.2.1, p.2.2.2.2.2.2.1, p.2.2.2.2.2.2.2⟩) (fun _ => rfl) (opensE_struct Tryd.underlying81 rfl (by kernel_rfl) (opensFE_cons (s1 := 1) rfl (by kernel_rfl) o3 (opensFE_cons (s1 := 1) rfl (by kernel_rfl) o3 (opensFE_cons (s1 := 1) rfl (by kernel_rfl) o4 (opensFE_cons (s1 := 1) rfl (by kernel_rfl) o4 (opensFE_cons (s1 := 1) rfl (by kernel_rfl) o4 (opensFE_cons (s1 := 1) rfl (by kernel_rfl) o4 (opensFE_cons (s1 := 1) rfl (by kernel_rfl) o9 (opensFE_one (sz := 1) rfl (by kernel_rfl) o3)))))))))
  exact h
theorem o28 : OpensE ctx PP 28 (fun b : (List SThing) => [.rsl 81 b]) (GList 48 GSThing) := by
  have h : OpensE ctx PP 81 (ctx.cod 81).enc GSThing := o81
  exact opensE_slice ctxOk Tryd.underlying28 (by kernel_rfl) (Nat.le_of_ble_eq_true (by kernel_rfl)) (by kernel_rfl) h
abbrev GSBook : SBook → Prop := GIso (GPair GStr (GPair (GInt .i64) (GPair (GList 48 GSThing) (GPair (GInt .i64) (GPair GStr (GInt .i64)))))) (fun s => (s.fWord, s.fTries, s.fThings, s.fLast, s.fChain, s.fCount))
theorem o30 : OpensE ctx PP 30 (fun x : SBook => [.str x.fWord, .int .i64 x.fTries, .rsl 81 x.fThings, .int .i64 x.fLast, .str x.fChain, .int .i64 x.fCount]) GSBook := by
  have h := opensE_iso (fun s : SBook => (s.fWord, s.fTries, s.fThings, s.fLast, s.fChain, s.fCount)) (fun p => ⟨p.1, p.2.1, p.2.2.1, p.2.2.2.1, p.2.2.2.2.1, p.2.2.2.2.2⟩) (fun _ => rfl) (opensE_struct Tryd.underlying30 rfl (by kernel_rfl) (opensFE_cons (s1 := 1) rfl (by kernel_rfl) o9 (opensFE_cons (s1 := 1) rfl (by kernel_rfl) o3 (opensFE_cons (s1 := 1) rfl (by kernel_rfl) o28 (opensFE_cons (s1 := 1) rfl (by kernel_rfl) o3 (opensFE_cons (s1 := 1) rfl (by kernel_rfl) o9 (opensFE_one (sz := 1) rfl (by kernel_rfl) o3)))))))
  exact h
abbrev GSRec : SRec → Prop := GIso (GPair (GInt .i64) (GPair GStr (GPair (GInt .i64) GSThing))) (fun s => (s.fKind, s.fText, s.fNum, s.fThing))
theorem o83 : OpensE ctx PP 83 (fun x : SRec => [.int .i64 x.fKind, .str x.fText, .int .i64 x.fNum, .int .i64 x.fThing.fId, .int .i64 x.fThing.fKind, .bool x.fThing.fHidden, .bool x.fThing.fFixed, .bool x.fThing.fSigns, .bool x.fThing.fWraps, .str x.fThing.fValue, .int .i64 x.fThing.fNext]) GSRec := by
  have h := opensE_iso (fun s : SRec => (s.fKind, s.fText, s.fNum, s.fThing)) (fun p => ⟨p.1, p.2.1, p.2.2.1, p.2.2.2⟩) (fun _ => rfl) (opensE_struct Tryd.underlying83 rfl (by kernel_rfl) (opensFE_cons (s1 := 1) rfl (by kernel_rfl) o3 (opensFE_cons (s1 := 1) rfl (by kernel_rfl) o9 (opensFE_cons (s1 := 1) rfl (by kernel_rfl) o3 (opensFE_one (sz := 8) rfl (by kernel_rfl) o81)))))
  exact h
theorem o31 : OpensE ctx PP 31 (fun b : (List SRec) => [.rsl 83 b]) (GList 80 GSRec) := by
  have h : OpensE ctx PP 83 (ctx.cod 83).enc GSRec := o83
  exact opensE_slice ctxOk Tryd.underlying31 (by kernel_rfl) (Nat.le_of_ble_eq_true (by kernel_rfl)) (by kernel_rfl) h
abbrev GSFile : SFile → Prop := GIso (GPair GStr (GPair GStr (GInt .i64))) (fun s => (s.fName, s.fText, s.fKept))
theorem o167 : OpensE ctx PP 167 (fun x : SFile => [.str x.fName, .str x.fText, .int .i64 x.fKept]) GSFile := by
  have h := opensE_iso (fun s : SFile => (s.fName, s.fText, s.fKept)) (fun p => ⟨p.1, p.2.1, p.2.2⟩) (fun _ => rfl) (opensE_struct Tryd.underlying167 rfl (by kernel_rfl) (opensFE_cons (s1 := 1) rfl (by kernel_rfl) o9 (opensFE_cons (s1 := 1) rfl (by kernel_rfl) o9 (opensFE_one (sz := 1) rfl (by kernel_rfl) o3))))
  exact h
theorem o42 : OpensE ctx PP 42 (fun b : (List SFile) => [.rsl 167 b]) (GList 40 GSFile) := by
  have h : OpensE ctx PP 167 (ctx.cod 167).enc GSFile := o167
  exact opensE_slice ctxOk Tryd.underlying42 (by kernel_rfl) (Nat.le_of_ble_eq_true (by kernel_rfl)) (by kernel_rfl) h
abbrev GSDisk : SDisk → Prop := GIso (GList 40 GSFile) (fun s => (s.fFiles))
theorem o44 : OpensE ctx PP 44 (fun x : SDisk => [.rsl 167 x.fFiles]) GSDisk := by
  have h := opensE_iso (fun s : SDisk => (s.fFiles)) (fun p => ⟨p⟩) (fun _ => rfl) (opensE_struct Tryd.underlying44 rfl (by kernel_rfl) (opensFE_one (sz := 1) rfl (by kernel_rfl) o42))
  exact h
abbrev GSSession : SSession → Prop := GIso (GPair (GInt .i64) GBool) (fun s => (s.fId, s.fIn))
theorem o132 : OpensE ctx PP 132 (fun x : SSession => [.int .i64 x.fId, .bool x.fIn]) GSSession := by
  have h := opensE_iso (fun s : SSession => (s.fId, s.fIn)) (fun p => ⟨p.1, p.2⟩) (fun _ => rfl) (opensE_struct Tryd.underlying132 rfl (by kernel_rfl) (opensFE_cons (s1 := 1) rfl (by kernel_rfl) o3 (opensFE_one (sz := 1) rfl (by kernel_rfl) o4)))
  exact h
theorem o45 : OpensE ctx PP 45 (fun b : (List SSession) => [.rsl 132 b]) (GList 16 GSSession) := by
  have h : OpensE ctx PP 132 (ctx.cod 132).enc GSSession := o132
  exact opensE_slice ctxOk Tryd.underlying45 (by kernel_rfl) (Nat.le_of_ble_eq_true (by kernel_rfl)) (by kernel_rfl) h
abbrev GSLive : SLive → Prop := GIso (GPair (GInt .i64) (GInt .i64)) (fun s => (s.fId, s.fNext))
theorem o136 : OpensE ctx PP 136 (fun x : SLive => [.int .i64 x.fId, .int .i64 x.fNext]) GSLive := by
  have h := opensE_iso (fun s : SLive => (s.fId, s.fNext)) (fun p => ⟨p.1, p.2⟩) (fun _ => rfl) (opensE_struct Tryd.underlying136 rfl (by kernel_rfl) (opensFE_cons (s1 := 1) rfl (by kernel_rfl) o3 (opensFE_one (sz := 1) rfl (by kernel_rfl) o3)))
  exact h
theorem o46 : OpensE ctx PP 46 (fun b : (List SLive) => [.rsl 136 b]) (GList 16 GSLive) := by
  have h : OpensE ctx PP 136 (ctx.cod 136).enc GSLive := o136
  exact opensE_slice ctxOk Tryd.underlying46 (by kernel_rfl) (Nat.le_of_ble_eq_true (by kernel_rfl)) (by kernel_rfl) h
abbrev GSBox : SBox → Prop := GIso (GPair GStr (GPair GBool (GPair GSDisk (GPair GSBook (GPair (GList 16 GSSession) (GPair (GList 16 GSLive) (GInt .i64))))))) (fun s => (s.fKey, s.fUp, s.fDisk, s.fBook, s.fSessions, s.fLives, s.fOpened))
theorem o48 : OpensE ctx PP 48 (fun x : SBox => [.str x.fKey, .bool x.fUp, .rsl 167 x.fDisk.fFiles, .str x.fBook.fWord, .int .i64 x.fBook.fTries, .rsl 81 x.fBook.fThings, .int .i64 x.fBook.fLast, .str x.fBook.fChain, .int .i64 x.fBook.fCount, .rsl 132 x.fSessions, .rsl 136 x.fLives, .int .i64 x.fOpened]) GSBox := by
  have h := opensE_iso (fun s : SBox => (s.fKey, s.fUp, s.fDisk, s.fBook, s.fSessions, s.fLives, s.fOpened)) (fun p => ⟨p.1, p.2.1, p.2.2.1, p.2.2.2.1, p.2.2.2.2.1, p.2.2.2.2.2.1, p.2.2.2.2.2.2⟩) (fun _ => rfl) (opensE_struct Tryd.underlying48 rfl (by kernel_rfl) (opensFE_cons (s1 := 1) rfl (by kernel_rfl) o9 (opensFE_cons (s1 := 1) rfl (by kernel_rfl) o4 (opensFE_cons (s1 := 1) rfl (by kernel_rfl) o44 (opensFE_cons (s1 := 6) rfl (by kernel_rfl) o30 (opensFE_cons (s1 := 1) rfl (by kernel_rfl) o45 (opensFE_cons (s1 := 1) rfl (by kernel_rfl) o46 (opensFE_one (sz := 1) rfl (by kernel_rfl) o3))))))))
  exact h
end Go.Proofs.YthfpmhalgimbbaaDoor.G
