/- What arguments of laws read as, by type. -/
import Derived.Test.YthfpmhalgimbbaaCtx
import Derived.Test.YthfpmhalgimbbaaSnd39
namespace Go.Proofs.Ythfpmhalgimbbaa.G
open Go Go.Ev
theorem o9 : OpensE ctx PP 9 (fun b : ByteArray => [.str b]) GStr := opensE_string Try.underlying9
theorem o4 : OpensE ctx PP 4 (fun b : Bool => [.bool b]) GBool := opensE_bool Try.underlying4
theorem o3 : OpensE ctx PP 3 (fun b : Int => [.int .i64 b]) (GInt .i64) := opensE_int Try.underlying3
abbrev GSFile : SFile → Prop := GIso (GPair GStr (GPair GStr (GInt .i64))) (fun s => (s.fName, s.fText, s.fKept))
theorem o101 : OpensE ctx PP 101 (fun x : SFile => [.str x.fName, .str x.fText, .int .i64 x.fKept]) GSFile := by
  have h := opensE_iso (fun s : SFile => (s.fName, s.fText, s.fKept)) (fun p => ⟨p.1, p.2.1, p.2.2⟩) (fun _ => rfl) (opensE_struct Try.underlying101 rfl (by kernel_rfl) (opensFE_cons (s1 := 1) rfl (by kernel_rfl) o9 (opensFE_cons (s1 := 1) rfl (by kernel_rfl) o9 (opensFE_one (sz := 1) rfl (by kernel_rfl) o3))))
  exact h
theorem o22 : OpensE ctx PP 22 (fun b : (List SFile) => [.rsl 101 b]) (GList 40 GSFile) := by
  have h : OpensE ctx PP 101 (ctx.cod 101).enc GSFile := o101
  exact opensE_slice ctxOk Try.underlying22 (by kernel_rfl) (Nat.le_of_ble_eq_true (by kernel_rfl)) (by kernel_rfl) h
abbrev GSDisk : SDisk → Prop := GIso (GList 40 GSFile) (fun s => (s.fFiles))
theorem o24 : OpensE ctx PP 24 (fun x : SDisk => [.rsl 101 x.fFiles]) GSDisk := by
  have h := opensE_iso (fun s : SDisk => (s.fFiles)) (fun p => ⟨p⟩) (fun _ => rfl) (opensE_struct Try.underlying24 rfl (by kernel_rfl) (opensFE_one (sz := 1) rfl (by kernel_rfl) o22))
  exact h
abbrev GSThing : SThing → Prop := GIso (GPair (GInt .i64) (GPair (GInt .i64) (GPair GBool (GPair GBool (GPair GBool (GPair GBool (GPair GStr (GInt .i64)))))))) (fun s => (s.fId, s.fKind, s.fHidden, s.fFixed, s.fSigns, s.fWraps, s.fValue, s.fNext))
theorem o103 : OpensE ctx PP 103 (fun x : SThing => [.int .i64 x.fId, .int .i64 x.fKind, .bool x.fHidden, .bool x.fFixed, .bool x.fSigns, .bool x.fWraps, .str x.fValue, .int .i64 x.fNext]) GSThing := by
  have h := opensE_iso (fun s : SThing => (s.fId, s.fKind, s.fHidden, s.fFixed, s.fSigns, s.fWraps, s.fValue, s.fNext)) (fun p => ⟨p.1, p.2.1, p.2.2.1, p.2.2.2.1, p.2.2.2.2.1, p.2.2.2.2.2.1, p.2.2.2.2.2.2.1, p.2.2.2.2.2.2.2⟩) (fun _ => rfl) (opensE_struct Try.underlying103 rfl (by kernel_rfl) (opensFE_cons (s1 := 1) rfl (by kernel_rfl) o3 (opensFE_cons (s1 := 1) rfl (by kernel_rfl) o3 (opensFE_cons (s1 := 1) rfl (by kernel_rfl) o4 (opensFE_cons (s1 := 1) rfl (by kernel_rfl) o4 (opensFE_cons (s1 := 1) rfl (by kernel_rfl) o4 (opensFE_cons (s1 := 1) rfl (by kernel_rfl) o4 (opensFE_cons (s1 := 1) rfl (by kernel_rfl) o9 (opensFE_one (sz := 1) rfl (by kernel_rfl) o3)))))))))
  exact h
theorem o25 : OpensE ctx PP 25 (fun b : (List SThing) => [.rsl 103 b]) (GList 48 GSThing) := by
  have h : OpensE ctx PP 103 (ctx.cod 103).enc GSThing := o103
  exact opensE_slice ctxOk Try.underlying25 (by kernel_rfl) (Nat.le_of_ble_eq_true (by kernel_rfl)) (by kernel_rfl) h
abbrev GSBook : SBook → Prop := GIso (GPair GStr (GPair (GInt .i64) (GPair (GList 48 GSThing) (GPair (GInt .i64) (GPair GStr (GInt .i64)))))) (fun s => (s.fWord, s.fTries, s.fThings, s.fLast, s.fChain, s.fCount))
theorem o27 : OpensE ctx PP 27 (fun x : SBook => [.str x.fWord, .int .i64 x.fTries, .rsl 103 x.fThings, .int .i64 x.fLast, .str x.fChain, .int .i64 x.fCount]) GSBook := by
  have h := opensE_iso (fun s : SBook => (s.fWord, s.fTries, s.fThings, s.fLast, s.fChain, s.fCount)) (fun p => ⟨p.1, p.2.1, p.2.2.1, p.2.2.2.1, p.2.2.2.2.1, p.2.2.2.2.2⟩) (fun _ => rfl) (opensE_struct Try.underlying27 rfl (by kernel_rfl) (opensFE_cons (s1 := 1) rfl (by kernel_rfl) o9 (opensFE_cons (s1 := 1) rfl (by kernel_rfl) o3 (opensFE_cons (s1 := 1) rfl (by kernel_rfl) o25 (opensFE_cons (s1 := 1) rfl (by kernel_rfl) o3 (opensFE_cons (s1 := 1) rfl (by kernel_rfl) o9 (opensFE_one (sz := 1) rfl (by kernel_rfl) o3)))))))
  exact h
abbrev GSSession : SSession → Prop := GIso (GPair (GInt .i64) GBool) (fun s => (s.fId, s.fIn))
theorem o87 : OpensE ctx PP 87 (fun x : SSession => [.int .i64 x.fId, .bool x.fIn]) GSSession := by
  have h := opensE_iso (fun s : SSession => (s.fId, s.fIn)) (fun p => ⟨p.1, p.2⟩) (fun _ => rfl) (opensE_struct Try.underlying87 rfl (by kernel_rfl) (opensFE_cons (s1 := 1) rfl (by kernel_rfl) o3 (opensFE_one (sz := 1) rfl (by kernel_rfl) o4)))
  exact h
theorem o28 : OpensE ctx PP 28 (fun b : (List SSession) => [.rsl 87 b]) (GList 16 GSSession) := by
  have h : OpensE ctx PP 87 (ctx.cod 87).enc GSSession := o87
  exact opensE_slice ctxOk Try.underlying28 (by kernel_rfl) (Nat.le_of_ble_eq_true (by kernel_rfl)) (by kernel_rfl) h
abbrev GSLive : SLive → Prop := GIso (GPair (GInt .i64) (GInt .i64)) (fun s => (s.fId, s.fNext))
theorem o89 : OpensE ctx PP 89 (fun x : SLive => [.int .i64 x.fId, .int .i64 x.fNext]) GSLive := by
  have h := opensE_iso (fun s : SLive => (s.fId, s.fNext)) (fun p => ⟨p.1, p.2⟩) (fun _ => rfl) (opensE_struct Try.underlying89 rfl (by kernel_rfl) (opensFE_cons (s1 := 1) rfl (by kernel_rfl) o3 (opensFE_one (sz := 1) rfl (by kernel_rfl) o3)))
  exact h
theorem o29 : OpensE ctx PP 29 (fun b : (List SLive) => [.rsl 89 b]) (GList 16 GSLive) := by
  have h : OpensE ctx PP 89 (ctx.cod 89).enc GSLive := o89
  exact opensE_slice ctxOk Try.underlying29 (by kernel_rfl) (Nat.le_of_ble_eq_true (by kernel_rfl)) (by kernel_rfl) h
abbrev GSBox : SBox → Prop := GIso (GPair GStr (GPair GBool (GPair GSDisk (GPair GSBook (GPair (GList 16 GSSession) (GPair (GList 16 GSLive) (GInt .i64))))))) (fun s => (s.fKey, s.fUp, s.fDisk, s.fBook, s.fSessions, s.fLives, s.fOpened))
theorem o31 : OpensE ctx PP 31 (fun x : SBox => [.str x.fKey, .bool x.fUp, .rsl 101 x.fDisk.fFiles, .str x.fBook.fWord, .int .i64 x.fBook.fTries, .rsl 103 x.fBook.fThings, .int .i64 x.fBook.fLast, .str x.fBook.fChain, .int .i64 x.fBook.fCount, .rsl 87 x.fSessions, .rsl 89 x.fLives, .int .i64 x.fOpened]) GSBox := by
  have h := opensE_iso (fun s : SBox => (s.fKey, s.fUp, s.fDisk, s.fBook, s.fSessions, s.fLives, s.fOpened)) (fun p => ⟨p.1, p.2.1, p.2.2.1, p.2.2.2.1, p.2.2.2.2.1, p.2.2.2.2.2.1, p.2.2.2.2.2.2⟩) (fun _ => rfl) (opensE_struct Try.underlying31 rfl (by kernel_rfl) (opensFE_cons (s1 := 1) rfl (by kernel_rfl) o9 (opensFE_cons (s1 := 1) rfl (by kernel_rfl) o4 (opensFE_cons (s1 := 1) rfl (by kernel_rfl) o24 (opensFE_cons (s1 := 6) rfl (by kernel_rfl) o27 (opensFE_cons (s1 := 1) rfl (by kernel_rfl) o28 (opensFE_cons (s1 := 1) rfl (by kernel_rfl) o29 (opensFE_one (sz := 1) rfl (by kernel_rfl) o3))))))))
  exact h
abbrev GSCall : SCall → Prop := GIso (GPair (GInt .i64) (GPair (GInt .i64) (GPair (GInt .i64) (GPair (GInt .i64) (GPair GStr (GPair GBool GBool)))))) (fun s => (s.fOp, s.fSession, s.fThing, s.fKind, s.fText, s.fHidden, s.fFixed))
theorem o48 : OpensE ctx PP 48 (fun x : SCall => [.int .i64 x.fOp, .int .i64 x.fSession, .int .i64 x.fThing, .int .i64 x.fKind, .str x.fText, .bool x.fHidden, .bool x.fFixed]) GSCall := by
  have h := opensE_iso (fun s : SCall => (s.fOp, s.fSession, s.fThing, s.fKind, s.fText, s.fHidden, s.fFixed)) (fun p => ⟨p.1, p.2.1, p.2.2.1, p.2.2.2.1, p.2.2.2.2.1, p.2.2.2.2.2.1, p.2.2.2.2.2.2⟩) (fun _ => rfl) (opensE_struct Try.underlying48 rfl (by kernel_rfl) (opensFE_cons (s1 := 1) rfl (by kernel_rfl) o3 (opensFE_cons (s1 := 1) rfl (by kernel_rfl) o3 (opensFE_cons (s1 := 1) rfl (by kernel_rfl) o3 (opensFE_cons (s1 := 1) rfl (by kernel_rfl) o3 (opensFE_cons (s1 := 1) rfl (by kernel_rfl) o9 (opensFE_cons (s1 := 1) rfl (by kernel_rfl) o4 (opensFE_one (sz := 1) rfl (by kernel_rfl) o4))))))))
  exact h
end Go.Proofs.Ythfpmhalgimbbaa.G
